import Derived.Test.YtefdfaeieekioaaGreatDoorQ04
import Derived.Lib.Overlaps
import Derived.Lib.AppendZerosOnto
set_option maxRecDepth 100000
set_option maxHeartbeats 40000000
set_option linter.unusedVariables false
set_option linter.unusedSimpArgs false
namespace Go.Proofs.YtefdfaeieekioaaGreatDoor
open Go.Vc Go.RowKit Go.Fl
theorem B2f (e:Ent) (hk:X6 e.key) (A:Option Addr) (cap:Nat) (S:Nat->Prop) (w:World) (hR:Row S w A e.vs.length cap (e.vs.map K2).flatten):
  Calls Tryz.prog 159 #[.agg #[.string e.key,.slice A e.vs.length cap]] w (C8 (.bool (A50 e)) w):=by
 refine vE Tryz.func159 ?_
 intro g1 w1 h1
 have hc:=((Ctx.start w no (fun _ h=>h.elim)).loc h1).1
 refine hc.c 0 rfl rfl ?_
 have hM:=D4 hR
 refine⟨Nat × Int,fun x=>[(1,.pointer (some ⟨g1,0,none⟩)),(3,.int .i64 x.2),(7,.slice A e.vs.length cap),(8,.int .i64 e.vs.length),(9,.int .i64 x.1)],
  fun x w'=>x.1<=e.vs.length/\A9t x.2 (e.vs.drop x.1)=A9t 0 e.vs/\Ctx no w no w' [(g1,99,[.string e.key,.slice A e.vs.length cap])],fun x _=>e.vs.length-x.1,(0,0),
  ⟨rfl,rfl,rfl,rfl,rfl,trivial⟩,⟨Nat.zero_le _,rfl,hc⟩,?_⟩
 rintro⟨i,last⟩ w' u ⟨hi,he,hc⟩
 simp only at hi he
 by_cases hlt:i<e.vs.length
 ·refine dt (by show (i:Int)<(e.vs.length:Int);omega) ?_
  obtain⟨ad,rfl,hcell⟩:=RowV.elem (hR.below hc.below) i hlt
  rw [List.drop_eq_getElem_cons hlt,A9t] at he
  generalize e.vs[i]=v at*
  refine⟨⟨by omega,by omega⟩,?_⟩
  refine⟨K2 v,rfl,hcell,?_⟩
  refine hc.n fun g5 w5 h5 hc=>?_
  refine⟨hc.may 0 rfl 0 _ (Nat.le_refl 3) rfl,?_⟩
  intro w6 h6
  have hc:=(hc.set 0 rfl h6).1
  refine⟨K2 v,rfl,hc.cells 0 rfl,?_⟩
  refine hc.q (A6K v _) fun w7 h7 hc=>?_
  have out:(A1C v&&decide (last<v.ver))=false->C8 (.bool (A50 e)) w (.returned (.bool false)) w7:=fun h=>⟨by rw [h] at he;rw [A50,<-he];rfl,hc.below⟩
  cases hv:A1C v
  ·refine out ?_
   rw [hv];rfl
  ·refine hc.c 0 rfl rfl ?_
   by_cases hl:last<v.ver
   ·refine df (by show ¬ v.ver<=last;omega) ?_
    refine hc.c 0 rfl rfl ?_
    refine⟨(i+1,v.ver),⟨rfl,rfl,rfl,rfl,congrArg _ (C3 (by omega)),trivial⟩,⟨hlt,?_,hc.drop⟩,by show e.vs.length-(i+1)<e.vs.length-i;omega⟩
    rw [<-he,hv,decide_eq_true hl]
    rfl
   ·refine dt (by show v.ver<=last;omega) ?_
    refine out ?_
    rw [decide_eq_false hl,Bool.and_false]
 ·refine df (by show ¬ (i:Int)<(e.vs.length:Int);omega) ?_
  rw [List.drop_of_length_le (by omega),A9t] at he
  have em:A50 e=(A8A e.key&&decide (1<=e.vs.length)&&decide (e.vs.length<=12)):=by rw [A50,<-he];rfl
  rw [em]
  refine hc.c 0 rfl rfl ?_
  refine hc.q (A9b e.key hk _) fun w3 h3 hc=>?_
  cases hkk:A8A e.key
  ·exact⟨rfl,hc.below⟩
  refine hc.c 0 rfl rfl ?_
  by_cases h1:1<=e.vs.length
  ·refine dt (by show (1:Int)<=(e.vs.length:Int);omega) ?_
   refine hc.c 0 rfl rfl ?_
   refine⟨B7 ?_,hc.below⟩
   rw [decide_eq_true h1,Bool.true_and,Bool.true_and]
   by_cases h12:e.vs.length<=12
   ·rw [decide_eq_true h12];exact decide_eq_true (by omega)
   ·rw [decide_eq_false h12];exact decide_eq_false (by omega)
  ·refine df (by show ¬ (1:Int)<=(e.vs.length:Int);omega) ?_
   refine⟨B7 ?_,hc.below⟩
   rw [decide_eq_false h1]
   rfl
def B2g (e sz n:Nat) (xs:List Value) (w:World) (en:Ending) (w':World):Prop:=∃ A cap,en=.returned (.slice A n cap)/\Below w.heap.size w w'/\w'.ownsRow w.heap.size e sz (.slice A n cap) n xs
theorem Row.cut {S:Nat->Prop} {w:World} {A:Option Addr} {n cap k:Nat} {css:List (List Value)} (hR:Row S w A n cap css.flatten) (hF:Flat k css) (hk:0<k) (hn:css.length=n) (hA:A=none):n=0/\css.flatten=[]:=by
 subst hA
 rcases Nat.eq_zero_or_pos n with h | h
 ·refine⟨h,List.eq_nil_of_length_eq_zero ?_⟩
  rw [hF.len,hn,h,Nat.zero_mul]
 ·obtain⟨ad,e,_⟩:=Row.elemF hR hk hF 0 (by omega)
  cases e
theorem A7L:(Tryz.prog.info? 147).map (fun i=>(i.zero,i.size,i.bytes))=some (some (.agg #[.int .i64 0,.bool false,.string ⟨#[]⟩]),3,32):=by kernel_rfl
theorem B5B (a:Option Addr) (n c:Nat) (ox oy:Operand) (w:World):(do eqGuard .eql 97 ox oy (.slice a n c) (.slice none 0 0);Go.binOp .eql 97 (.slice a n c) (.slice none 0 0):Sem Value).run Tryz.prog w=.ok (.bool a.isNone) w:=by
 have h:=Lib.run_eql_slice_nil (P:=Tryz.prog) w 97 147 a n c 0 0 Tryz.underlying97
 simp only [eqGuard]
 simpa using h
theorem J6 (A:Option Addr) (n cap:Nat) (css:List (List Value)) (hF:Flat 3 css) (hn:css.length=n) (hb:n<=1000000) (S:Nat->Prop) (w:World) (hR:Row S w A n cap css.flatten):
  Calls Tryz.prog 109 #[.slice A n cap] w (B2g 147 3 n css.flatten w):=by
 refine vE Tryz.func109 ?_
 refine⟨_,fun w=>B5B A n cap _ _ w,?_⟩
 cases A with
 | none=>
  obtain⟨h0,h1⟩:=Row.cut hR hF (by decide) hn rfl
  subst h0
  rw [h1]
  exact⟨none,0,rfl,Below.refl _ _,World.ownsRow_nil _ _ _ _⟩
 | some ad=>
  intro g w1 h1
  have hc:=Ctx.start w no (fun _ h=>h.elim)
  obtain⟨hc,hf,ho⟩:=Own.made hc h1 3 0 rfl (Nat.zero_le _)
  refine Z0 Tryz.underlying97 A7L rfl (by decide) hc ho (hR.below h1.below) (by rw [hF.len,hn]) hF.ones (by omega) (by decide) ?_
  intro A' cap' w2 hc hf ho _
  rw [Nat.zero_add] at ho ⊢
  rw [List.nil_append] at ho
  exact⟨A',cap',rfl,hc.below,ho.row⟩
theorem A6L {S0 S:Nat->Prop} {w0 w:World} {l:List LB} (hc:Ctx S0 w0 S w l) (css:List (List Value)) (hF:Flat 3 css) {A:Option Addr} {cap:Nat} (ho:Own S w0.heap.size w l 147 3 A css.length cap css.flatten) (i:Nat) (hi:i<css.length) (j:Int) (hj:j=i+1):
  Calls Tryz.prog 321 #[.slice A css.length cap,.int .i64 i,.int .i64 j] w (fun en w'=>∃ A',en=.returned (.slice A' (css.length-1) cap)/\Ctx S0 w0 S w' l/\Fut S w S w'/\Own S w0.heap.size w' l 147 3 A' (css.length-1) cap (css.take i++css.drop (i+1)).flatten):=by
 cases hA:A with
 | none=>
  obtain⟨h0,_⟩:=ho.none' hA
  omega
 | some a=>
 obtain⟨g,cur,e1,hc,hcl,hct,hnc,hcm⟩:=ho.opened hc hA
 rw [hA] at e1
 cases e1
 have hM:cap<=9223372036854775807:=Nat.le_trans hcm (by decide)
 generalize hn:css.length=n at*
 refine vE Tryz.func321 ?_
 refine⟨⟨by omega,by omega,by omega,by omega⟩,?_⟩
 refine C3X (by show ((i:Int)==j)=false;rw [beq_eq_false_iff_ne];omega) ?_
 refine vD (.Q [0,1,2,3,4,5] (.n 6 (.q 7 .fin) .stop)) (fun _=>True) trivial ?_
 have hc:=hc.drew
 refine⟨⟨by omega,by omega,by omega,by omega⟩,?_⟩
 refine⟨⟨by omega,by omega,by omega,by omega⟩,?_⟩
 refine⟨?_,trivial⟩
 have hjn:j.toNat=i+1:=by omega
 have hyl:((css.drop (i+1)).flatten).length=(n-(i+1))*3:=by rw [(hF.drop _).len,List.length_drop,hn]
 have hcd:(cur.drop ((i+1)*3)).take ((css.drop (i+1)).flatten).length=(css.drop (i+1)).flatten:=by
  rw [hF.flat_drop,<-hct,List.drop_take,List.length_take,List.length_drop,hcl]
  congr 1
  omega
 have hcells:∀ ad:Addr,ad=(if (cap:Int)=j then (⟨g,0,none⟩:Addr) else (⟨g,0,none⟩:Addr).add (j.toNat*3))->Go.Vc.cellsAt w.drew ad (css.drop (i+1)).flatten 0:=by
  intro ad had
  by_cases hcj:(cap:Int)=j
  ·have:(css.drop (i+1)).flatten=[]:=List.eq_nil_of_length_eq_zero (by rw [hyl];omega)
   rw [this];trivial
  ·rw [if_neg hcj,Addr.add_lit,Nat.zero_add,hjn] at had
   rw [had]
   exact hc.cellsAt 0 rfl _ _ hcd
 refine A7A Tryz.underlying97 A7L hc hcl (n:=i) (m:=n-(i+1)) (c:=((cap:Int)-j).toNat) (by omega) hyl (hcells _ rfl) (hF.drop _).ones ?_ ?_ ?_
 ·have e0:(if (cap:Int)=0 then some (⟨g,0,none⟩:Addr) else (some (⟨g,0,none⟩:Addr)).map (·.add ((0:Int).toNat*3)))=some ⟨g,0,none⟩:=by split<;>rfl
  show Value.slice (if (cap:Int)=0 then some (⟨g,0,none⟩:Addr) else (some (⟨g,0,none⟩:Addr)).map (·.add ((0:Int).toNat*3))) ((i:Int)-0).toNat ((cap:Int)-0).toNat=_
  rw [e0]
  congr 1<;>omega
 ·show Value.slice (if (cap:Int)=j then some (⟨g,0,none⟩:Addr) else (some (⟨g,0,none⟩:Addr)).map (·.add (j.toNat*3))) ((n:Int)-j).toNat ((cap:Int)-j).toNat=_
  have e0:(if (cap:Int)=j then some (⟨g,0,none⟩:Addr) else (some (⟨g,0,none⟩:Addr)).map (·.add (j.toNat*3)))=some (if (cap:Int)=j then (⟨g,0,none⟩:Addr) else (⟨g,0,none⟩:Addr).add (j.toNat*3)):=by split<;>rfl
  rw [e0]
  congr 1
  omega
 intro w2 hc hf2
 refine⟨trivial,?_⟩
 have hn1:i+(n-(i+1))=n-1:=by omega
 rw [hn1]
 have hcur2:(cur.take (i*3)++(css.drop (i+1)).flatten++cur.drop ((i+(n-(i+1)))*3)).length=cap*3:=by
  rw [List.length_append,List.length_append,List.length_take,List.length_drop,hyl,hcl]
  omega
 have htk2:(cur.take (i*3)++(css.drop (i+1)).flatten++cur.drop ((i+(n-(i+1)))*3)).take ((n-1)*3)=(css.take i++css.drop (i+1)).flatten:=by
  have e1:(cur.take (i*3)++(css.drop (i+1)).flatten).length=(n-1)*3:=by rw [List.length_append,List.length_take,hyl,hcl];omega
  rw [List.take_left' e1,List.flatten_append,hF.flat_take,<-hct,List.take_take]
  congr 2
  omega
 generalize cur.take (i*3)++(css.drop (i+1)).flatten++cur.drop ((i+(n-(i+1)))*3)=cur2 at*
 refine⟨⟨by omega,by omega,by omega,by omega⟩,?_⟩
 refine A1n Tryz.underlying97 (z:=.agg #[.int .i64 0,.bool false,.string ⟨#[]⟩]) (fun w=>by kernel_rfl) (a:=⟨g,(n-1)*3,none⟩) (n:=1) (c:=cap-(n-1)) (by decide) ?_ (zs:=[.int .i64 0,.bool false,.string ⟨#[]⟩]) (by kernel_rfl) (hc.may 0 rfl ((n-1)*3) [.int .i64 0,.bool false,.string ⟨#[]⟩] (by rw [hcur2];show (n-1)*3+3<=_;omega) rfl) ?_
 ·show Value.slice (if (cap:Int)=((n-1:Nat):Int) then some (⟨g,0,none⟩:Addr) else (some (⟨g,0,none⟩:Addr)).map (·.add (((n-1:Nat):Int).toNat*3))) ((n:Int)-((n-1:Nat):Int)).toNat ((cap:Int)-((n-1:Nat):Int)).toNat=_
  rw [if_neg (by omega),Option.map_some,Addr.add_lit,Nat.zero_add,Int.toNat_natCast]
  congr 1<;>omega
 intro w3 h3
 have hC:=hc.set 0 rfl h3
 have hc:=hC.1
 have hlen3:(C0 cur2 ((n-1)*3) [.int .i64 0,.bool false,.string ⟨#[]⟩]).length=cap*3:=by rw [putAt_len,hcur2]
 obtain⟨hc,ho⟩:=Ctx.closed hc 3 (n-1) cap (by omega) hcm hlen3
 refine⟨some ⟨g,0,none⟩,rfl,hc,hf2.trans hC.2,?_⟩
 rw [<-htk2]
 have e3:(C0 cur2 ((n-1)*3) [.int .i64 0,.bool false,.string ⟨#[]⟩]).take ((n-1)*3)=cur2.take ((n-1)*3):=by
  rw [E5 _ _ _ (by rw [hcur2];show (n-1)*3+3<=_;omega),List.append_assoc,List.take_left' (by rw [List.length_take,hcur2];omega)]
 rw [<-e3]
 exact ho
theorem A03:(Tryz.prog.info? 99).map (fun i=>(i.zero,i.size,i.bytes))=some (some (.agg #[.string ⟨#[]⟩,.slice none 0 0]),2,40):=by kernel_rfl
theorem B5C (a:Option Addr) (n c:Nat) (ox oy:Operand) (w:World):(do eqGuard .eql 37 ox oy (.slice a n c) (.slice none 0 0);Go.binOp .eql 37 (.slice a n c) (.slice none 0 0):Sem Value).run Tryz.prog w=.ok (.bool a.isNone) w:=by
 have h:=Lib.run_eql_slice_nil (P:=Tryz.prog) w 37 99 a n c 0 0 Tryz.underlying37
 simp only [eqGuard]
 simpa using h
theorem G2 (A:Option Addr) (n cap:Nat) (css:List (List Value)) (hF:Flat 2 css) (hn:css.length=n) (hb:n<=1000000) (S:Nat->Prop) (w:World) (hR:Row S w A n cap css.flatten):
  Calls Tryz.prog 107 #[.slice A n cap] w (B2g 99 2 n css.flatten w):=by
 refine vE Tryz.func107 ?_
 refine⟨_,fun w=>B5C A n cap _ _ w,?_⟩
 cases A with
 | none=>
  obtain⟨h0,h1⟩:=Row.cut hR hF (by decide) hn rfl
  subst h0
  rw [h1]
  exact⟨none,0,rfl,Below.refl _ _,World.ownsRow_nil _ _ _ _⟩
 | some ad=>
  intro g w1 h1
  have hc:=Ctx.start w no (fun _ h=>h.elim)
  obtain⟨hc,hf,ho⟩:=Own.made hc h1 2 0 rfl (Nat.zero_le _)
  refine Z0 Tryz.underlying37 A03 rfl (by decide) hc ho (hR.below h1.below) (by rw [hF.len,hn]) hF.ones (by omega) (by decide) ?_
  intro A' cap' w2 hc hf ho _
  rw [Nat.zero_add] at ho ⊢
  rw [List.nil_append] at ho
  exact⟨A',cap',rfl,hc.below,ho.row⟩
theorem A6M {S0 S:Nat->Prop} {w0 w:World} {l:List LB} (hc:Ctx S0 w0 S w l) (css:List (List Value)) (hF:Flat 2 css) {A:Option Addr} {cap:Nat} (ho:Own S w0.heap.size w l 99 2 A css.length cap css.flatten) (i:Nat) (hi:i<css.length) (j:Int) (hj:j=i+1):
  Calls Tryz.prog 292 #[.slice A css.length cap,.int .i64 i,.int .i64 j] w (fun en w'=>∃ A',en=.returned (.slice A' (css.length-1) cap)/\Ctx S0 w0 S w' l/\Fut S w S w'/\Own S w0.heap.size w' l 99 2 A' (css.length-1) cap (css.take i++css.drop (i+1)).flatten):=by
 cases hA:A with
 | none=>
  obtain⟨h0,_⟩:=ho.none' hA
  omega
 | some a=>
 obtain⟨g,cur,e1,hc,hcl,hct,hnc,hcm⟩:=ho.opened hc hA
 rw [hA] at e1
 cases e1
 have hM:cap<=9223372036854775807:=Nat.le_trans hcm (by decide)
 generalize hn:css.length=n at*
 refine vE Tryz.func292 ?_
 refine⟨⟨by omega,by omega,by omega,by omega⟩,?_⟩
 refine C3X (by show ((i:Int)==j)=false;rw [beq_eq_false_iff_ne];omega) ?_
 refine vD (.Q [0,1,2,3,4,5] (.n 6 (.q 7 .fin) .stop)) (fun _=>True) trivial ?_
 have hc:=hc.drew
 refine⟨⟨by omega,by omega,by omega,by omega⟩,?_⟩
 refine⟨⟨by omega,by omega,by omega,by omega⟩,?_⟩
 refine⟨?_,trivial⟩
 have hjn:j.toNat=i+1:=by omega
 have hyl:((css.drop (i+1)).flatten).length=(n-(i+1))*2:=by rw [(hF.drop _).len,List.length_drop,hn]
 have hcd:(cur.drop ((i+1)*2)).take ((css.drop (i+1)).flatten).length=(css.drop (i+1)).flatten:=by
  rw [hF.flat_drop,<-hct,List.drop_take,List.length_take,List.length_drop,hcl]
  congr 1
  omega
 have hcells:∀ ad:Addr,ad=(if (cap:Int)=j then (⟨g,0,none⟩:Addr) else (⟨g,0,none⟩:Addr).add (j.toNat*2))->Go.Vc.cellsAt w.drew ad (css.drop (i+1)).flatten 0:=by
  intro ad had
  by_cases hcj:(cap:Int)=j
  ·have:(css.drop (i+1)).flatten=[]:=List.eq_nil_of_length_eq_zero (by rw [hyl];omega)
   rw [this];trivial
  ·rw [if_neg hcj,Addr.add_lit,Nat.zero_add,hjn] at had
   rw [had]
   exact hc.cellsAt 0 rfl _ _ hcd
 refine A7A Tryz.underlying37 A03 hc hcl (n:=i) (m:=n-(i+1)) (c:=((cap:Int)-j).toNat) (by omega) hyl (hcells _ rfl) (hF.drop _).ones ?_ ?_ ?_
 ·have e0:(if (cap:Int)=0 then some (⟨g,0,none⟩:Addr) else (some (⟨g,0,none⟩:Addr)).map (·.add ((0:Int).toNat*2)))=some ⟨g,0,none⟩:=by split<;>rfl
  show Value.slice (if (cap:Int)=0 then some (⟨g,0,none⟩:Addr) else (some (⟨g,0,none⟩:Addr)).map (·.add ((0:Int).toNat*2))) ((i:Int)-0).toNat ((cap:Int)-0).toNat=_
  rw [e0]
  congr 1<;>omega
 ·show Value.slice (if (cap:Int)=j then some (⟨g,0,none⟩:Addr) else (some (⟨g,0,none⟩:Addr)).map (·.add (j.toNat*2))) ((n:Int)-j).toNat ((cap:Int)-j).toNat=_
  have e0:(if (cap:Int)=j then some (⟨g,0,none⟩:Addr) else (some (⟨g,0,none⟩:Addr)).map (·.add (j.toNat*2)))=some (if (cap:Int)=j then (⟨g,0,none⟩:Addr) else (⟨g,0,none⟩:Addr).add (j.toNat*2)):=by split<;>rfl
  rw [e0]
  congr 1
  omega
 intro w2 hc hf2
 refine⟨trivial,?_⟩
 have hn1:i+(n-(i+1))=n-1:=by omega
 rw [hn1]
 have hcur2:(cur.take (i*2)++(css.drop (i+1)).flatten++cur.drop ((i+(n-(i+1)))*2)).length=cap*2:=by
  rw [List.length_append,List.length_append,List.length_take,List.length_drop,hyl,hcl]
  omega
 have htk2:(cur.take (i*2)++(css.drop (i+1)).flatten++cur.drop ((i+(n-(i+1)))*2)).take ((n-1)*2)=(css.take i++css.drop (i+1)).flatten:=by
  have e1:(cur.take (i*2)++(css.drop (i+1)).flatten).length=(n-1)*2:=by rw [List.length_append,List.length_take,hyl,hcl];omega
  rw [List.take_left' e1,List.flatten_append,hF.flat_take,<-hct,List.take_take]
  congr 2
  omega
 generalize cur.take (i*2)++(css.drop (i+1)).flatten++cur.drop ((i+(n-(i+1)))*2)=cur2 at*
 refine⟨⟨by omega,by omega,by omega,by omega⟩,?_⟩
 refine A1n Tryz.underlying37 (z:=.agg #[.string ⟨#[]⟩,.slice none 0 0]) (fun w=>by kernel_rfl) (a:=⟨g,(n-1)*2,none⟩) (n:=1) (c:=cap-(n-1)) (by decide) ?_ (zs:=[.string ⟨#[]⟩,.slice none 0 0]) (by kernel_rfl) (hc.may 0 rfl ((n-1)*2) [.string ⟨#[]⟩,.slice none 0 0] (by rw [hcur2];show (n-1)*2+2<=_;omega) rfl) ?_
 ·show Value.slice (if (cap:Int)=((n-1:Nat):Int) then some (⟨g,0,none⟩:Addr) else (some (⟨g,0,none⟩:Addr)).map (·.add (((n-1:Nat):Int).toNat*2))) ((n:Int)-((n-1:Nat):Int)).toNat ((cap:Int)-((n-1:Nat):Int)).toNat=_
  rw [if_neg (by omega),Option.map_some,Addr.add_lit,Nat.zero_add,Int.toNat_natCast]
  congr 1<;>omega
 intro w3 h3
 have hC:=hc.set 0 rfl h3
 have hc:=hC.1
 have hlen3:(C0 cur2 ((n-1)*2) [.string ⟨#[]⟩,.slice none 0 0]).length=cap*2:=by rw [putAt_len,hcur2]
 obtain⟨hc,ho⟩:=Ctx.closed hc 2 (n-1) cap (by omega) hcm hlen3
 refine⟨some ⟨g,0,none⟩,rfl,hc,hf2.trans hC.2,?_⟩
 rw [<-htk2]
 have e3:(C0 cur2 ((n-1)*2) [.string ⟨#[]⟩,.slice none 0 0]).take ((n-1)*2)=cur2.take ((n-1)*2):=by
  rw [E5 _ _ _ (by rw [hcur2];show (n-1)*2+2<=_;omega),List.append_assoc,List.take_left' (by rw [List.length_take,hcur2];omega)]
 rw [<-e3]
 exact ho
theorem A1z:(Tryz.prog.info? 101).map (fun i=>(i.zero,i.size,i.bytes))=some (some (.agg #[.int .i64 0,.int .i64 0,.int .i64 0]),3,24):=by kernel_rfl
theorem B5D (a:Option Addr) (n c:Nat) (ox oy:Operand) (w:World):(do eqGuard .eql 38 ox oy (.slice a n c) (.slice none 0 0);Go.binOp .eql 38 (.slice a n c) (.slice none 0 0):Sem Value).run Tryz.prog w=.ok (.bool a.isNone) w:=by
 have h:=Lib.run_eql_slice_nil (P:=Tryz.prog) w 38 101 a n c 0 0 Tryz.underlying38
 simp only [eqGuard]
 simpa using h
theorem Q1 (A:Option Addr) (n cap:Nat) (css:List (List Value)) (hF:Flat 3 css) (hn:css.length=n) (hb:n<=1000000) (S:Nat->Prop) (w:World) (hR:Row S w A n cap css.flatten):
  Calls Tryz.prog 108 #[.slice A n cap] w (B2g 101 3 n css.flatten w):=by
 refine vE Tryz.func108 ?_
 refine⟨_,fun w=>B5D A n cap _ _ w,?_⟩
 cases A with
 | none=>
  obtain⟨h0,h1⟩:=Row.cut hR hF (by decide) hn rfl
  subst h0
  rw [h1]
  exact⟨none,0,rfl,Below.refl _ _,World.ownsRow_nil _ _ _ _⟩
 | some ad=>
  intro g w1 h1
  have hc:=Ctx.start w no (fun _ h=>h.elim)
  obtain⟨hc,hf,ho⟩:=Own.made hc h1 3 0 rfl (Nat.zero_le _)
  refine Z0 Tryz.underlying38 A1z rfl (by decide) hc ho (hR.below h1.below) (by rw [hF.len,hn]) hF.ones (by omega) (by decide) ?_
  intro A' cap' w2 hc hf ho _
  rw [Nat.zero_add] at ho ⊢
  rw [List.nil_append] at ho
  exact⟨A',cap',rfl,hc.below,ho.row⟩
def B8A (A:Option Addr) (cap:Nat) (e:Ent) (q:Ent × Bool) (w:World) (en:Ending) (w':World):Prop:=
 if q.2 then ∃ A' cap',en=.returned (.tuple #[.agg #[.string q.1.key,.slice A' q.1.vs.length cap'],.bool true])/\Below w.heap.size w w'/\w'.ownsRow w.heap.size 147 3 (.slice A' q.1.vs.length cap') q.1.vs.length (q.1.vs.map K2).flatten
 else en=.returned (.tuple #[.agg #[.string e.key,.slice A e.vs.length cap],.bool false])/\Below w.heap.size w w'
theorem B6v (l:List Ver) (v:Ver):(l.map K2).flatten++K2 v=((l++[v]).map K2).flatten:=by simp
theorem B88 (l:List Ver) (i:Nat):((l.map K2).take i++(l.map K2).drop (i+1)).flatten=((l.take i++l.drop (i+1)).map K2).flatten:=by simp
theorem A10 (e:Ent) (v:Ver) (A:Option Addr) (cap:Nat) (hb:e.vs.length<=1000000) (S:Nat->Prop) (w:World) (hR:Row S w A e.vs.length cap (e.vs.map K2).flatten):
  Calls Tryz.prog 271 #[.agg #[.string e.key,.slice A e.vs.length cap],.agg (K2 v).toArray] w (B8A A cap e (A6G e v) w):=by
 refine vE Tryz.func271 ?_
 intro g1 w1 h1
 have hc:=((Ctx.start w no (fun _ h=>h.elim)).loc h1).1
 refine hc.n fun g2 w2 h2 hc=>?_
 refine hc.n fun g3 w3 h3 hc=>?_
 refine hc.a 2 rfl rfl ?_
 refine hc.q (A95 e A cap S w3 (hR.below hc.below)) fun w4 h4 hc=>?_
 have hM:=D4 hR
 refine hc.n fun g5 w5 h5 hc=>?_
 refine⟨hc.may 0 rfl 0 _ (Nat.le_refl 3) rfl,?_⟩
 intro w6 h6
 have hc:=(hc.set 0 rfl h6).1
 refine hc.c 3 rfl rfl ?_
 have bad:((e.vs.length≠0/\v.ver<=(G5 e.vs).ver)\/12<=e.vs.length)->A6G e v=(e,false):=fun h=>by rw [A6G,if_pos h]
 have full:∀ h:e.vs.length≠0->¬ v.ver<=(G5 e.vs).ver,12<=e.vs.length\/A6G e v=(⟨e.key,e.vs++[v]⟩,true):=fun h=>by
  rcases Nat.lt_or_ge e.vs.length 12 with h12 | h12
  ·right
   rw [A6G,if_neg]
   rintro (h' | h')
   ·exact h h'.1 h'.2
   ·omega
  ·exact .inl h12
 rcases Nat.eq_zero_or_pos e.vs.length with h0 | h0
 all_goals first
  | (
    refine df (show ¬ (0:Int)<(e.vs.length:Int) by omega) ?_
    have full:=full (fun h=>absurd h0 h))
  | (
    refine dt (show (0:Int)<(e.vs.length:Int) by omega) ?_
    have hn:A4y e=(G5 e.vs,!(G5 e.vs).gone):=by rw [A4y,if_neg (by omega)]
    rw [hn] at hc
    refine hc.c 2 rfl rfl ?_
    have hlv:w6.cell? ⟨g5,0,none⟩=some (.int .i64 (G5 e.vs).ver):=hc.cell 0 rfl _ rfl
    refine⟨_,hlv,?_⟩
    rcases Int.lt_or_le (G5 e.vs).ver v.ver with hl | hl
    rotate_left
    ·refine dt hl ?_
     refine hc.a 3 rfl rfl ?_
     refine hc.s 1 rfl fun wS hS hc=>?_
     refine hc.a 1 rfl rfl ?_
     rw [bad (.inl ⟨by omega,hl⟩)]
     exact⟨rfl,hc.below⟩
    refine df (show ¬ v.ver<=(G5 e.vs).ver by omega) ?_
    have full:=full (fun _=>by omega))
 all_goals refine hc.c 3 rfl rfl ?_
 all_goals rcases Nat.lt_or_ge e.vs.length 12 with h12 | h12
 all_goals first
  | (
    refine dt (show (12:Int)<=(e.vs.length:Int) by omega) ?_
    refine hc.a 3 rfl rfl ?_
    refine hc.s 1 rfl fun wS hS hc=>?_
    refine hc.a 1 rfl rfl ?_
    rw [bad (.inr h12)]
    exact⟨rfl,hc.below⟩)
  | (
    refine df (show ¬ (12:Int)<=(e.vs.length:Int) by omega) ?_
    have full:=full.resolve_left (by omega)
    rw [full]
    refine vD (.Q [0,1,2,3,5] (.n 4 (.n 6 (.n 7 (.q 8 (.n 9 (.q 10 .fin) .stop)) .stop) .stop) (.n 6 (.n 4 (.n 7 (.q 8 (.n 9 (.q 10 .fin) .stop)) .stop) .stop) .stop))) (fun x=>Blk x g1 99 [.string e.key,.slice A e.vs.length cap]/\Blk x g2 147 (K2 v)) ⟨hc.blk 3 rfl,hc.blk 2 rfl⟩ ?_
    have hc:=hc.drew
    refine⟨_,fun x hx=>hx.1.cell 0,?_⟩
    refine⟨_,fun x hx=>hx.1.cell 1,?_⟩
    refine⟨K2 v,rfl,fun x hx=>⟨hx.2.cell 0,hx.2.cell 1,hx.2.cell 2,trivial⟩,?_⟩
    refine⟨?_,?_,trivial⟩
    ·refine⟨(J6 A e.vs.length cap (e.vs.map K2) (I7 _) (by rw [List.length_map]) hb S _ (hR.below hc.below)).mono fun en w7 hq=>?_⟩
     obtain⟨A1,cap1,e1,h7,ho⟩:=hq
     obtain⟨hc,_,ho⟩:=hc.fresh h7 ho
     refine⟨_,e1,⟨hc.blk 3 rfl,hc.blk 2 rfl⟩,?_⟩
     refine⟨fun g8 w8 h8=>?_,trivial⟩
     have ho:=ho.loc h8
     have hc:=(hc.loc h8).1
     refine⟨⟨hc.blk 4 rfl,hc.blk 3 rfl⟩,?_⟩
     refine⟨R0 Tryz.underlying97 A7L rfl (by decide) hc ho (ys:=K2 v) rfl (hc.cells 0 rfl) rfl (by omega) (by decide) ?_,trivial⟩
     intro A2 cap2 w9 hc _ ho _
     refine⟨⟨hc.blk 4 rfl,hc.blk 3 rfl⟩,?_⟩
     refine⟨⟨hc.may 2 rfl 0 _ (Nat.le_refl 2) rfl,?_⟩,trivial⟩
     intro w10 h10
     have ho:=ho.set hc 2 rfl h10
     have hc:=(hc.set 2 rfl h10).1
     refine⟨⟨hc.blk 4 rfl,hc.blk 3 rfl⟩,?_⟩
     refine hc.a 2 rfl rfl ?_
     have ho:=ho.row
     rw [B6v] at ho
     have hlen:(e.vs++[v]).length=e.vs.length+1:=by simp
     refine⟨A2,cap2,?_,hc.below,?_⟩
     ·simp only [hlen];rfl
     ·simp only [hlen];exact ho
    ·refine hc.n fun g8 w8 h8 hc=>?_
     refine⟨⟨hc.blk 4 rfl,hc.blk 3 rfl⟩,?_⟩
     refine⟨⟨(J6 A e.vs.length cap (e.vs.map K2) (I7 _) (by rw [List.length_map]) hb S _ (hR.below hc.below)).mono fun en w7 hq=>?_⟩,trivial⟩
     obtain⟨A1,cap1,e1,h7,ho⟩:=hq
     obtain⟨hc,_,ho⟩:=hc.fresh h7 ho
     refine⟨_,e1,⟨hc.blk 4 rfl,hc.blk 3 rfl⟩,?_⟩
     refine⟨R0 Tryz.underlying97 A7L rfl (by decide) hc ho (ys:=K2 v) rfl (hc.cells 0 rfl) rfl (by omega) (by decide) ?_,trivial⟩
     intro A2 cap2 w9 hc _ ho _
     refine⟨⟨hc.blk 4 rfl,hc.blk 3 rfl⟩,?_⟩
     refine⟨⟨hc.may 2 rfl 0 _ (Nat.le_refl 2) rfl,?_⟩,trivial⟩
     intro w10 h10
     have ho:=ho.set hc 2 rfl h10
     have hc:=(hc.set 2 rfl h10).1
     refine⟨⟨hc.blk 4 rfl,hc.blk 3 rfl⟩,?_⟩
     refine hc.a 2 rfl rfl ?_
     have ho:=ho.row
     rw [B6v] at ho
     have hlen:(e.vs++[v]).length=e.vs.length+1:=by simp
     refine⟨A2,cap2,?_,hc.below,?_⟩
     ·simp only [hlen];rfl
     ·simp only [hlen];exact ho)
theorem A97 (e:Ent) (n:Int) (A:Option Addr) (cap:Nat) (hb:e.vs.length<=1000000) (S:Nat->Prop) (w:World) (hR:Row S w A e.vs.length cap (e.vs.map K2).flatten):
  Calls Tryz.prog 291 #[.agg #[.string e.key,.slice A e.vs.length cap],.int .i64 n] w (B8A A cap e (A9u e n) w):=by
 refine vE Tryz.func291 ?_
 intro g1 w1 h1
 have hc:=((Ctx.start w no (fun _ h=>h.elim)).loc h1).1
 refine hc.n fun g2 w2 h2 hc=>?_
 refine hc.a 1 rfl rfl ?_
 refine hc.q (A96 e n A cap S w2 (hR.below hc.below)) fun w3 h3 hc=>?_
 have hM:=D4 hR
 unfold A9u
 cases hi:A1q e.vs n with
 | none=>
  refine hc.a 1 rfl rfl ?_
  refine hc.s 0 rfl fun wS hS hc=>?_
  refine hc.a 0 rfl rfl ?_
  exact⟨rfl,hc.below⟩
 | some i=>
  obtain⟨hlt,_⟩:=A6I hi
  refine vD (.Q [0,1,2,3,5,6,7] (.n 4 (.n 8 (.q 9 (.n 10 (.q 11 .fin) .stop)) .stop) .stop)) (fun x=>Blk x g1 99 [.string e.key,.slice A e.vs.length cap]) (hc.blk 1 rfl) ?_
  have hc:=hc.drew
  refine⟨_,fun x hx=>hx.cell 0,?_⟩
  refine⟨_,fun x hx=>hx.cell 1,?_⟩
  refine⟨⟨(J6 A e.vs.length cap (e.vs.map K2) (I7 _) (by rw [List.length_map]) hb S _ (hR.below hc.below)).mono fun en w7 hq=>?_⟩,trivial⟩
  obtain⟨A1,cap1,e1,h7,ho⟩:=hq
  obtain⟨hc,_,ho⟩:=hc.fresh h7 ho
  refine⟨_,e1,hc.blk 1 rfl,?_⟩
  refine⟨?_,trivial⟩
  have hml:(e.vs.map K2).length=e.vs.length:=List.length_map ..
  have hd:=A6L hc (e.vs.map K2) (I7 _) (A:=A1) (cap:=cap1) (by rw [hml];exact ho) i (by rw [hml];exact hlt) (IntKind.i64.wrap ((i:Int)+1)) (by rw [E0 _ _ (by omega) (by omega)])
  rw [hml] at hd
  refine⟨hd.mono fun en w8 hq=>?_⟩
  obtain⟨A2,e2,hc,_,ho⟩:=hq
  refine⟨_,e2,hc.blk 1 rfl,?_⟩
  refine⟨⟨hc.may 0 rfl 0 _ (Nat.le_refl 2) rfl,?_⟩,trivial⟩
  intro w10 h10
  have ho:=ho.set hc 0 rfl h10
  have hc:=(hc.set 0 rfl h10).1
  refine⟨hc.blk 1 rfl,?_⟩
  refine hc.a 0 rfl rfl ?_
  have ho:=ho.row
  rw [B88] at ho
  have hlen:(e.vs.take i++e.vs.drop (i+1)).length=e.vs.length-1:=by rw [List.length_append,List.length_take,List.length_drop];omega
  refine⟨A2,cap1,?_,hc.below,?_⟩
  ·simp only [hlen];rfl
  ·simp only [hlen];exact ho
theorem F9 (l:List Mem):Flat 3 (l.map F7):=Flat.map F7 (fun _=>⟨rfl,rfl⟩) l
theorem RowM.elem {S:Nat->Prop} {w:World} {A:Option Addr} {n cap:Nat} {l:List Mem} (hR:Row S w A n cap (l.map F7).flatten) (i:Nat) (hi:i<l.length):∃ ad,A=some ad/\Go.Vc.cellsAt w (ad.add (i*3)) (F7 l[i]) 0:=by
 obtain⟨ad,e,h⟩:=Row.elemF hR (by decide) (F9 l) i (by rw [List.length_map];exact hi)
 rw [List.getElem_map] at h
 exact⟨ad,e,h⟩
theorem RowE.elem {S:Nat->Prop} {w:World} {A:Option Addr} {n cap:Nat} {l:List Ent} {css:List (List Value)} (hR:Row S w A n cap css.flatten) (hE:RepEs S w l css) (i:Nat) (hi:i<l.length):
  ∃ ad A' cap',A=some ad/\Go.Vc.cellsAt w (ad.add (i*2)) [.string l[i].key,.slice A' l[i].vs.length cap'] 0/\Row S w A' l[i].vs.length cap' (l[i].vs.map K2).flatten:=by
 have hl:=hE.len
 obtain⟨ad,e,h⟩:=Row.elemF hR (by decide) hE.flat i (by omega)
 obtain⟨A',cap',e1,h1⟩:=hE.get i hi (by omega)
 rw [e1] at h
 exact⟨ad,A',cap',e,h,h1⟩
theorem RepS.shape {S:Nat->Prop} {w:World} {s:Stt} {cs:List Value} (h:RepS S w s cs):∃ A cap css B cap' l0 l1 l2 l3 l4,cs=[.int .i64 s.seq,.slice A s.l.length cap,.slice B s.ms.length cap',.int .i64 l0,.int .i64 l1,.int .i64 l2,.int .i64 l3,.int .i64 l4]/\
  s.lows=[l0,l1,l2,l3,l4]/\RepEs S w s.l css/\Row S w A s.l.length cap css.flatten/\Row S w B s.ms.length cap' (s.ms.map F7).flatten:=by
 obtain⟨A,cap,css,B,cap',e1,e2,e3,e4,e5⟩:=h
 match hl:s.lows,e2 with
 | [l0,l1,l2,l3,l4],_=>
  rw [hl] at e1
  exact⟨A,cap,css,B,cap',l0,l1,l2,l3,l4,e1,rfl,e3,e4,e5⟩
theorem A98 (d:Nat) (w:World) (a0 a1 a2 a3 a4 b0 b1 b2 b3 b4:Int):(Op.equalIn (d+2) 39 (.agg #[.int .i64 a0,.int .i64 a1,.int .i64 a2,.int .i64 a3,.int .i64 a4]) (.agg #[.int .i64 b0,.int .i64 b1,.int .i64 b2,.int .i64 b3,.int .i64 b4])).run Tryz.prog w=.ok ([a0,a1,a2,a3,a4]==[b0,b1,b2,b3,b4]) w:=by
 have hs:∀ w,(Go.sizeOf 2).run Tryz.prog w=.ok 1 w:=fun w=>by kernel_rfl
 have step:∀ (x y:Int) w,(Op.equalIn (d+1) 2 (.int .i64 x) (.int .i64 y)).run Tryz.prog w=.ok (x==y) w:=fun x y w=>run_equalIn_int w d 2 .i64 .i64 x y Tryz.underlying2
 rw [Op.equalIn]
 generalize Op.equalIn (d+1)=F at step ⊢
 simp only [Sem.run_bind,run_underlying Tryz.underlying39,Result.andThen_ok,hs,Std.Legacy.Range.forIn_eq_forIn_range',Std.Legacy.Range.size]
 simp [List.range',part,isAgg,run_underlying Tryz.underlying2,step]
 by_cases h0:a0=b0
 rotate_left
 ·simp [h0]
 by_cases h1:a1=b1
 rotate_left
 ·simp [h0,h1]
 by_cases h2:a2=b2
 rotate_left
 ·simp [h0,h1,h2]
 by_cases h3:a3=b3<;>by_cases h4:a4=b4<;>simp [h0,h1,h2,h3,h4]
theorem A99:Tryz.prog.eqGuardType Tryz.prog.depth 39=false:=by kernel_rfl
theorem A0K {w:World} {g T:Nat} {a b c:Value} {l0 l1 l2 l3 l4:Int} (hB:Blk w g T [a,b,c,.int .i64 l0,.int .i64 l1,.int .i64 l2,.int .i64 l3,.int .i64 l4]) (h j:Int) (hr:1<=h/\h<=5) (hj:j=h-1):
  w.cell? ((⟨g,0+3,none⟩:Addr).add (j.toNat*1))=some (.int .i64 (I5 [l0,l1,l2,l3,l4] h)):=by
 subst hj
 have hh:h=1\/h=2\/h=3\/h=4\/h=5:=by omega
 rcases hh with rfl | rfl | rfl | rfl | rfl
 ·exact hB.cell 3
 ·exact hB.cell 4
 ·exact hB.cell 5
 ·exact hB.cell 6
 ·exact hB.cell 7
theorem A8F (l0 l1 l2 l3 l4:Int) (i:Nat) (hi:i<5) (w:World):(Instr.index 39 (.agg #[.int .i64 l0,.int .i64 l1,.int .i64 l2,.int .i64 l3,.int .i64 l4]) (.int .i64 i)).run Tryz.prog w=.ok (.int .i64 ([l0,l1,l2,l3,l4].getD i 0)) w:=by
 obtain⟨ti,hsz,_,hs1,_⟩:=info_parts (show (Tryz.prog.info? 2).map (fun i=>(i.zero,i.size,i.bytes))=some (some (.int .i64 0),1,8) by kernel_rfl)
 unfold Instr.index
 simp only [Sem.run_bind,asIntOf,Sem.run_pure,Result.andThen_ok,run_underlying Tryz.underlying39]
 rw [if_pos ⟨by omega,by omega⟩]
 match i,hi with
 | 0,_=>simp [part,isAgg,sizeOf,typeInfo,run_underlying Tryz.underlying2,hsz,hs1]
 | 1,_=>simp [part,isAgg,sizeOf,typeInfo,run_underlying Tryz.underlying2,hsz,hs1]
 | 2,_=>simp [part,isAgg,sizeOf,typeInfo,run_underlying Tryz.underlying2,hsz,hs1]
 | 3,_=>simp [part,isAgg,sizeOf,typeInfo,run_underlying Tryz.underlying2,hsz,hs1]
 | 4,_=>simp [part,isAgg,sizeOf,typeInfo,run_underlying Tryz.underlying2,hsz,hs1]
def A3g (l:List Ent) (i:Nat):Option ByteArray:=if i=0 then none else (l[i-1]?).map (·.key)
def A2n (l:List Mem) (i:Nat):Option Int:=if i=0 then none else (l[i-1]?).map (·.req)
def leK (p:Option ByteArray) (k:ByteArray):Bool:=match p with | none=>true | some q=>C6 q k
def leM (p:Option Int) (n:Int):Bool:=match p with | none=>true | some q=>decide (q<n)
theorem B0A (seq:Int) (p:Option ByteArray) (e:Ent) (r:List Ent):A1M seq p (e::r)=(A50 e&&decide ((G5 e.vs).ver<=seq)&&leK p e.key&&A1M seq (some e.key) r):=by
 cases p<;>simp only [A1M,leK]
theorem B0B (lows:List Int) (seq:Int) (p:Option Int) (m:Mem) (r:List Mem):A1D lows seq p (m::r)=(!(B2 m.req==0)&&decide (I5 lows (B2 m.req)<=m.req)&&leM p m.req&&
  decide (0<=m.res.err)&&decide (m.res.err<=13)&&decide (0<=m.res.ver)&&decide (m.res.ver<=seq)&&A1D lows seq (some m.req) r):=by
 cases p<;>simp only [A1D,leM]
def stC (s:Stt) (A:Option Addr) (cap:Nat) (B:Option Addr) (cap':Nat) (l0 l1 l2 l3 l4:Int):List Value:=[.int .i64 s.seq,.slice A s.l.length cap,.slice B s.ms.length cap',.int .i64 l0,.int .i64 l1,.int .i64 l2,.int .i64 l3,.int .i64 l4]
theorem A3h (s:Stt) (hk:∀ e∈s.l,X6 e.key) (cs:List Value) (S:Nat->Prop) (w:World) (hs:RepS S w s cs):Calls Tryz.prog 93 #[.agg cs.toArray] w (C8 (.bool (T5 s)) w):=by
 obtain⟨A,cap,css,B,cap',l0,l1,l2,l3,l4,rfl,el,hE,hR,hM⟩:=hs.shape
 have hMa:=D4 hR
 have hMm:=D4 hM
 refine vE Tryz.func93 ?_
 intro g1 w1 h1
 have hc:=((Ctx.start w no (fun _ h=>h.elim)).loc h1).1
 have e0:T5 s=(decide (0<=s.seq)&&decide (s.seq<=E3)&&decide (s.l.length<=40)&&decide (s.ms.length<=100)&&A1M s.seq none s.l&&A0g 0 s.lows&&A1D s.lows s.seq none s.ms):=rfl
 have hmax:E3=1099511627776:=rfl
 rw [el] at e0
 generalize T5 s=r at e0 ⊢
 refine hc.c 0 rfl rfl ?_
 rcases Int.lt_or_le s.seq 0 with c1 | c1
 ·refine dt c1 ?_
  rw [decide_eq_false (show ¬ 0<=s.seq by omega)] at e0
  exact⟨B7 e0.symm,hc.below⟩
 refine df (show ¬ s.seq<0 by omega) ?_
 refine hc.c 0 rfl rfl ?_
 rcases Int.lt_or_le 1099511627776 s.seq with c2 | c2
 ·refine dt c2 ?_
  rw [decide_eq_true c1,decide_eq_false (show ¬ s.seq<=E3 by omega)] at e0
  exact⟨B7 e0.symm,hc.below⟩
 refine df (show ¬ 1099511627776<s.seq by omega) ?_
 refine hc.c 0 rfl rfl ?_
 rcases Nat.lt_or_ge 40 s.l.length with c3 | c3
 ·refine dt (show (40:Int)<(s.l.length:Int) by omega) ?_
  rw [decide_eq_false (show ¬ s.l.length<=40 by omega),Bool.and_false] at e0
  exact⟨B7 e0.symm,hc.below⟩
 refine df (show ¬ (40:Int)<(s.l.length:Int) by omega) ?_
 refine hc.c 0 rfl rfl ?_
 rcases Nat.lt_or_ge 100 s.ms.length with c4 | c4
 ·refine dt (show (100:Int)<(s.ms.length:Int) by omega) ?_
  rw [decide_eq_false (show ¬ s.ms.length<=100 by omega),Bool.and_false] at e0
  exact⟨B7 e0.symm,hc.below⟩
 refine df (show ¬ (100:Int)<(s.ms.length:Int) by omega) ?_
 rw [decide_eq_true c1,decide_eq_true (show s.seq<=E3 by omega),decide_eq_true c3,decide_eq_true c4,Bool.and_self,Bool.and_self,Bool.and_self,Bool.true_and] at e0
 refine hc.c 0 rfl rfl ?_
 refine⟨Nat,fun i=>[(1,.pointer (some ⟨g1,0,none⟩)),(31,.slice A s.l.length cap),(32,.int .i64 s.l.length),(33,.int .i64 i)],
  fun i w'=>i<=s.l.length/\A1M s.seq (A3g s.l i) (s.l.drop i)=A1M s.seq none s.l/\Ctx no w no w' [(g1,41,stC s A cap B cap' l0 l1 l2 l3 l4)],fun i _=>s.l.length-i,0,
  ⟨rfl,rfl,rfl,rfl,trivial⟩,⟨Nat.zero_le _,rfl,hc⟩,?_⟩
 rintro i w' u ⟨hi,he,hc⟩
 rcases Nat.lt_or_ge i s.l.length with hlt | hlt
 ·refine dt (by omega) ?_
  obtain⟨ad,A1,cap1,e1,hcell,hr1⟩:=RowE.elem (hR.below hc.below) (hE.below hc.below) i hlt
  subst e1
  have hnext:A3g s.l (i+1)=some s.l[i].key:=by rw [A3g,if_neg (by omega),Nat.add_sub_cancel,List.getElem?_eq_getElem hlt];rfl
  have hkk:=hk _ (List.getElem_mem hlt)
  rw [List.drop_eq_getElem_cons hlt,B0A] at he
  generalize s.l[i]=e at*
  refine⟨⟨by omega,by omega⟩,?_⟩
  refine⟨[.string e.key,.slice A1 e.vs.length cap1],rfl,hcell,?_⟩
  refine hc.n fun g4 w4 h4 hc=>?_
  refine⟨hc.may 0 rfl 0 _ (Nat.le_refl 2) rfl,?_⟩
  intro w5 h5
  have hc:=(hc.set 0 rfl h5).1
  have cz:=((Ctx.start w' no (fun _ h=>h.elim)).loc h4).1
  have cz:=(cz.set 0 rfl h5).1
  have hr1:=hr1.below cz.below
  have hMv:=D4 hr1
  have out:∀ w6:World,Below w.heap.size w w6->(A50 e&&decide ((G5 e.vs).ver<=s.seq)&&leK (A3g s.l i) e.key)=false->C8 (.bool r) w (.returned (.bool false)) w6:=fun w6 hb h=>by
   rw [h,Bool.false_and] at he
   rw [<-he,Bool.false_and,Bool.false_and] at e0
   exact⟨B7 e0.symm,hb⟩
  refine vD (.q 0 (.n 1 (.Q [2,3,4,5,6,7,8,9,10,11,12,13,14,15,16,17,18,19,20,21,22,23,24,25,26,27,28,29,30,31,32] .fin) .stop)) (Keeps (fun b=>b<w5.heap.size) w5) (Keeps.start _ _) ?_
  refine⟨_,?_,fun x hx=>hx.looks _ _ (hc.cells 0 rfl),?_⟩
  ·rfl
  refine⟨B4 (B2f e hkk A1 cap1 S _ (hr1.below (Below.refl _ _).drew)) ?_,trivial⟩
  intro w6 h6
  have hcq:=(hc.drew.quiet h6).1
  refine⟨(Keeps.start _ _).below (fun b hb=>hb) h6,?_⟩
  rcases Bool.eq_false_or_eq_true (A50 e) with hm | hm
  rotate_left
  ·refine B0 (by rw [hm];rfl) ?_
   exact out _ hcq.below (by rw [hm];rfl)
  refine C3X (by rw [hm];rfl) ?_
  have hpos:=(E1.1 hm).2.2.1
  have hlv:e.vs.length-1<e.vs.length:=by omega
  have hw:IntKind.i64.wrap ((e.vs.length:Int)-1)=((e.vs.length-1:Nat):Int):=by rw [IntWalk.i64_in _ ⟨by omega,by omega⟩];omega
  obtain⟨ed,e2,hcl⟩:=RowV.elem hr1 (e.vs.length-1) hlv
  subst e2
  rw [<-A46 hlv] at hcl
  refine⟨_,fun x hx=>hx.look (hc.cell 0 rfl _ rfl),?_⟩
  refine⟨_,fun x hx=>hx.look (hc.cell 0 rfl _ rfl),?_⟩
  refine⟨⟨by rw [hw];omega,by rw [hw];omega⟩,?_⟩
  have hl0:w5.cell? (ed.add ((IntKind.i64.wrap ((e.vs.length:Int)-1)).toNat*3))=some (.int .i64 (G5 e.vs).ver):=by
   have:=hcl.1
   rw [add_add,Nat.add_zero] at this
   rw [hw,Int.toNat_natCast]
   exact this
  generalize ed.add ((IntKind.i64.wrap ((e.vs.length:Int)-1)).toNat*3)=ae at hl0 ⊢
  obtain⟨ab,ao,asub⟩:=ae
  refine⟨_,fun x hx=>hx.look hl0,?_⟩
  refine⟨_,fun x hx=>hx.look (hc.cell 1 rfl _ rfl),?_⟩
  rcases Int.lt_or_le s.seq (G5 e.vs).ver with c5 | c5
  ·refine dt c5 ?_
   exact out _ hcq.below (by rw [decide_eq_false (show ¬ (G5 e.vs).ver<=s.seq by omega),Bool.and_false];rfl)
  refine df (show ¬ s.seq<(G5 e.vs).ver by omega) ?_
  have next:leK (A3g s.l i) e.key=true->A1M s.seq (A3g s.l (i+1)) (s.l.drop (i+1))=A1M s.seq none s.l:=fun h=>by
   rw [hnext,<-he,hm,decide_eq_true c5,h];rfl
  rcases Nat.eq_zero_or_pos i with c6 | c6
  ·refine df (show ¬ (0:Int)<(i:Int) by omega) ?_
   exact⟨i+1,⟨rfl,rfl,rfl,congrArg _ (C3 (by omega)),trivial⟩,⟨hlt,next (by rw [A3g,if_pos c6];rfl),hcq.drop⟩,by show s.l.length-(i+1)<s.l.length-i;omega⟩
  refine dt (show (0:Int)<(i:Int) by omega) ?_
  have hj:i-1<s.l.length:=by omega
  have hwi:IntKind.i64.wrap ((i:Int)-1)=((i-1:Nat):Int):=by rw [IntWalk.i64_in _ ⟨by omega,by omega⟩];omega
  obtain⟨ad',A2,cap2,e3,hcellp,_⟩:=RowE.elem (hR.below hc.below) (hE.below hc.below) (i-1) hj
  cases e3
  have hpk:A3g s.l i=some s.l[i-1].key:=by rw [A3g,if_neg (by omega),List.getElem?_eq_getElem hj];rfl
  refine⟨_,fun x hx=>hx.look (hc.cell 1 rfl _ rfl),?_⟩
  refine⟨⟨by rw [hwi];omega,by rw [hwi];omega⟩,?_⟩
  have hp0:w5.cell? (ad.add ((IntKind.i64.wrap ((i:Int)-1)).toNat*2))=some (.string s.l[i-1].key):=by
   have:=hcellp.1
   rw [add_add,Nat.add_zero] at this
   rw [hwi,Int.toNat_natCast]
   exact this
  generalize ad.add ((IntKind.i64.wrap ((i:Int)-1)).toNat*2)=ap at hp0 ⊢
  obtain⟨pb,po,psub⟩:=ap
  refine⟨_,fun x hx=>hx.look hp0,?_⟩
  refine⟨_,fun x hx=>hx.look (hc.cell 0 rfl _ rfl),?_⟩
  rcases Bool.eq_false_or_eq_true (C6 s.l[i-1].key e.key) with c7 | c7
  ·refine C3X (by rw [c7];rfl) ?_
   exact⟨i+1,⟨rfl,rfl,rfl,congrArg _ (C3 (by omega)),trivial⟩,⟨hlt,next (by rw [hpk];exact c7),hcq.drop⟩,by show s.l.length-(i+1)<s.l.length-i;omega⟩
  ·refine B0 (by rw [c7];rfl) ?_
   exact out _ hcq.below (by rw [hpk];show (_&&C6 s.l[i-1].key e.key)=false;rw [c7,Bool.and_false])
 refine df (by omega) ?_
 rw [List.drop_of_length_le (by omega),A1M] at he
 rw [<-he,Bool.true_and] at e0
 refine⟨[.int .i64 l0,.int .i64 l1,.int .i64 l2,.int .i64 l3,.int .i64 l4],rfl,hc.cellsAt 0 rfl (0+3) _ rfl,?_⟩
 refine⟨Nat,fun i=>[(1,.pointer (some ⟨g1,0,none⟩)),(73,.agg #[.int .i64 l0,.int .i64 l1,.int .i64 l2,.int .i64 l3,.int .i64 l4]),(74,.int .i64 i)],
  fun i w'=>i<=5/\A0g i ([l0,l1,l2,l3,l4].drop i)=A0g 0 [l0,l1,l2,l3,l4]/\Ctx no w no w' [(g1,41,stC s A cap B cap' l0 l1 l2 l3 l4)],fun i _=>5-i,0,
  ⟨rfl,rfl,rfl,trivial⟩,⟨Nat.zero_le _,rfl,hc⟩,?_⟩
 rintro i w' u ⟨hi,he,hc⟩
 rcases Nat.lt_or_ge i 5 with hlt | hlt
 ·refine dt (by omega) ?_
  refine⟨_,fun w=>A8F l0 l1 l2 l3 l4 i hlt w,?_⟩
  have hd:[l0,l1,l2,l3,l4].drop i=[l0,l1,l2,l3,l4].getD i 0::[l0,l1,l2,l3,l4].drop (i+1):=by
   match i,hlt with
   | 0,_=>rfl
   | 1,_=>rfl
   | 2,_=>rfl
   | 3,_=>rfl
   | 4,_=>rfl
  rw [hd,A0g] at he
  generalize [l0,l1,l2,l3,l4].getD i 0=x at*
  have hwi:IntKind.i64.wrap ((i:Int)+1)=(i:Int)+1:=E0 _ _ (by omega) (by omega)
  rcases Int.decEq x 0 with c1 | c1
  ·refine B0 (by show (x != 0)=true;rw [bne_iff_ne];exact c1) ?_
   refine hc.q (K0 x _) fun w3 h3 hc=>?_
   have hx0:(x==0)=false:=by rw [beq_eq_false_iff_ne];exact c1
   rcases Int.decEq (B2 x) ((i:Int)+1) with c2 | c2
   ·refine B0 (by show (B2 x != IntKind.i64.wrap ((i:Int)+1))=true;rw [hwi,bne_iff_ne];exact c2) ?_
    have:(B2 x==(i:Int)+1)=false:=by rw [beq_eq_false_iff_ne];exact c2
    rw [hx0,this] at he
    rw [<-he] at e0
    exact⟨B7 e0.symm,hc.below⟩
   ·refine C3X (by show (B2 x != IntKind.i64.wrap ((i:Int)+1))=false;rw [hwi,c2];simp) ?_
    have:(B2 x==(i:Int)+1)=true:=by rw [beq_iff_eq];exact c2
    rw [this,Bool.or_true,Bool.true_and] at he
    exact⟨i+1,⟨rfl,rfl,congrArg _ (C3 (by omega)),trivial⟩,⟨hlt,he,hc⟩,by show 5-(i+1)<5-i;omega⟩
  ·subst c1
   exact⟨i+1,⟨rfl,rfl,congrArg _ (C3 (by omega)),trivial⟩,⟨hlt,he,hc⟩,by show 5-(i+1)<5-i;omega⟩
 refine df (by omega) ?_
 rw [List.drop_of_length_le (by show 5<=i;exact hlt),A0g] at he
 rw [<-he,Bool.true_and] at e0
 refine hc.c 0 rfl rfl ?_
 refine⟨Nat,fun i=>[(1,.pointer (some ⟨g1,0,none⟩)),(89,.slice B s.ms.length cap'),(90,.int .i64 s.ms.length),(91,.int .i64 i)],
  fun i w'=>i<=s.ms.length/\A1D [l0,l1,l2,l3,l4] s.seq (A2n s.ms i) (s.ms.drop i)=A1D [l0,l1,l2,l3,l4] s.seq none s.ms/\Ctx no w no w' [(g1,41,stC s A cap B cap' l0 l1 l2 l3 l4)],fun i _=>s.ms.length-i,0,
  ⟨rfl,rfl,rfl,rfl,trivial⟩,⟨Nat.zero_le _,rfl,hc⟩,?_⟩
 rintro i w' u ⟨hi,he,hc⟩
 rcases Nat.lt_or_ge i s.ms.length with hlt | hlt
 ·refine dt (by omega) ?_
  obtain⟨ad,e1,hcell⟩:=RowM.elem (hM.below hc.below) i hlt
  subst e1
  have hnext:A2n s.ms (i+1)=some s.ms[i].req:=by rw [A2n,if_neg (by omega),Nat.add_sub_cancel,List.getElem?_eq_getElem hlt];rfl
  rw [List.drop_eq_getElem_cons hlt,B0B] at he
  generalize s.ms[i]=m at*
  refine⟨⟨by omega,by omega⟩,?_⟩
  refine⟨F7 m,rfl,hcell,?_⟩
  refine hc.n fun g8 w4 h4 hc=>?_
  refine⟨hc.may 0 rfl 0 _ (Nat.le_refl 3) rfl,?_⟩
  intro w5 h5
  have hc:=(hc.set 0 rfl h5).1
  refine hc.c 0 rfl rfl ?_
  refine hc.q (K0 m.req _) fun w6 h6 hc=>?_
  have hh:=R6 m.req
  have out:∀ w6:World,Below w.heap.size w w6->(!(B2 m.req==0)&&decide (I5 [l0,l1,l2,l3,l4] (B2 m.req)<=m.req)&&leM (A2n s.ms i) m.req&&decide (0<=m.res.err)&&decide (m.res.err<=13)&&decide (0<=m.res.ver)&&decide (m.res.ver<=s.seq))=false->C8 (.bool r) w (.returned (.bool false)) w6:=fun w6 hb h=>by
   rw [h,Bool.false_and] at he
   rw [<-he] at e0
   exact⟨B7 e0.symm,hb⟩
  generalize B2 m.req=hm at*
  refine vD (.Q [0,1,2,3,4,5,6,7,8,9,10,11,12,13,14,15,16,17,18,19,20,21,22,23,24,25,26,27] .fin) (Keeps (fun b=>b<w6.heap.size) w6) (Keeps.start _ _) ?_
  have hcd:=hc.drew
  rcases Int.decEq hm 0 with c1 | c1
  rotate_left
  ·subst c1
   exact out _ hcd.below rfl
  refine C3X (by show (hm==0)=false;rw [beq_eq_false_iff_ne];exact c1) ?_
  have hwm:IntKind.i64.wrap (hm-1)=hm-1:=IntWalk.i64_in _ ⟨by omega,by omega⟩
  refine⟨_,fun x hx=>hx.look (hc.cell 0 rfl _ rfl),?_⟩
  refine⟨⟨by rw [hwm];omega,by rw [hwm];omega⟩,?_⟩
  have hl0:=A0K (hc.blk 1 rfl) hm (IntKind.i64.wrap (hm-1)) ⟨by omega,by omega⟩ hwm
  have hm0:(hm==0)=false:=by rw [beq_eq_false_iff_ne];exact c1
  generalize I5 [l0,l1,l2,l3,l4] hm=lo at*
  generalize (⟨g1,0+3,none⟩:Addr).add ((IntKind.i64.wrap (hm-1)).toNat*1)=al at hl0 ⊢
  obtain⟨lb,lof,lsub⟩:=al
  refine⟨_,fun x hx=>hx.look hl0,?_⟩
  rcases Int.lt_or_le m.req lo with c2 | c2
  ·refine dt c2 ?_
   exact out _ hcd.below (by rw [decide_eq_false (show ¬ lo<=m.req by omega),Bool.and_false];rfl)
  refine df (show ¬ m.req<lo by omega) ?_
  have hfar:leM (A2n s.ms i) m.req=true->(!(hm==0)&&decide (lo<=m.req)&&leM (A2n s.ms i) m.req)=true:=fun h=>by rw [hm0,decide_eq_true c2,h];rfl
  rcases Nat.eq_zero_or_pos i with c3 | c3
  all_goals first
   | (
     refine df (show ¬ (0:Int)<(i:Int) by omega) ?_
     have hle:=hfar (by rw [A2n,if_pos c3];rfl))
   | (
     refine dt (show (0:Int)<(i:Int) by omega) ?_
     have hj:i-1<s.ms.length:=by omega
     have hwi:IntKind.i64.wrap ((i:Int)-1)=((i-1:Nat):Int):=by rw [IntWalk.i64_in _ ⟨by omega,by omega⟩];omega
     obtain⟨ad',e3,hcellp⟩:=RowM.elem (hM.below hc.below) (i-1) hj
     cases e3
     have hpk:A2n s.ms i=some s.ms[i-1].req:=by rw [A2n,if_neg (by omega),List.getElem?_eq_getElem hj];rfl
     refine⟨_,fun x hx=>hx.look (hc.cell 1 rfl _ rfl),?_⟩
     refine⟨⟨by rw [hwi];omega,by rw [hwi];omega⟩,?_⟩
     have hp0:w6.cell? (ad.add ((IntKind.i64.wrap ((i:Int)-1)).toNat*3))=some (.int .i64 s.ms[i-1].req):=by
      have:=hcellp.1
      rw [add_add,Nat.add_zero] at this
      rw [hwi,Int.toNat_natCast]
      exact this
     generalize ad.add ((IntKind.i64.wrap ((i:Int)-1)).toNat*3)=ap at hp0 ⊢
     obtain⟨pb,po,psub⟩:=ap
     refine⟨_,fun x hx=>hx.look hp0,?_⟩
     refine⟨_,fun x hx=>hx.look (hc.cell 0 rfl _ rfl),?_⟩
     rcases Int.lt_or_le s.ms[i-1].req m.req with c7 | c7
     rotate_left
     ·refine dt c7 ?_
      exact out _ hcd.below (by
       have:leM (A2n s.ms i) m.req=false:=by rw [hpk];exact decide_eq_false (by omega)
       rw [this,Bool.and_false];rfl)
     refine df (show ¬ m.req<=s.ms[i-1].req by omega) ?_
     have hle:=hfar (by rw [hpk];exact decide_eq_true c7))
  all_goals rw [hle,Bool.true_and] at out he
  all_goals refine⟨_,hcd.cell 0 rfl _ rfl,?_⟩
  all_goals rcases Int.lt_or_le m.res.err 0 with d1 | d1
  all_goals first
   | (
     refine dt d1 ?_
     exact out _ hcd.below (by rw [decide_eq_false (show ¬ 0<=m.res.err by omega)];rfl))
   | (refine df (show ¬ m.res.err<0 by omega) ?_)
  all_goals refine⟨_,hcd.cell 0 rfl _ rfl,?_⟩
  all_goals rcases Int.lt_or_le 13 m.res.err with d2 | d2
  all_goals first
   | (
     refine dt d2 ?_
     exact out _ hcd.below (by rw [decide_eq_false (show ¬ m.res.err<=13 by omega),Bool.and_false];rfl))
   | (refine df (show ¬ 13<m.res.err by omega) ?_)
  all_goals refine⟨_,hcd.cell 0 rfl _ rfl,?_⟩
  all_goals rcases Int.lt_or_le m.res.ver 0 with d3 | d3
  all_goals first
   | (
     refine dt d3 ?_
     exact out _ hcd.below (by rw [decide_eq_false (show ¬ 0<=m.res.ver by omega),Bool.and_false];rfl))
   | (refine df (show ¬ m.res.ver<0 by omega) ?_)
  all_goals refine⟨_,hcd.cell 0 rfl _ rfl,?_⟩
  all_goals refine⟨_,hcd.cell 1 rfl _ rfl,?_⟩
  all_goals rcases Int.lt_or_le s.seq m.res.ver with d4 | d4
  all_goals first
   | (
     refine dt d4 ?_
     exact out _ hcd.below (by rw [decide_eq_false (show ¬ m.res.ver<=s.seq by omega),Bool.and_false]))
   | (
     refine df (show ¬ s.seq<m.res.ver by omega) ?_
     rw [decide_eq_true d1,decide_eq_true d2,decide_eq_true d3,decide_eq_true d4] at he
     exact⟨i+1,⟨rfl,rfl,rfl,congrArg _ (C3 (by omega)),trivial⟩,⟨hlt,by rw [hnext];exact he,hcd.drop⟩,by show s.ms.length-(i+1)<s.ms.length-i;omega⟩)
 ·refine df (by omega) ?_
  rw [List.drop_of_length_le (by omega),A1D] at he
  rw [<-he] at e0
  exact⟨B7 e0.symm,hc.below⟩
structure Ver.Ok (v:Ver):Prop where
 ver:B3 v.ver
 body:X6 v.body
structure Ent.Ok (e:Ent):Prop where
 key:X6 e.key
 vs:∀ v∈e.vs,v.Ok
structure Mem.Ok (m:Mem):Prop where
 req:B3 m.req
 err:B3 m.res.err
 ver:B3 m.res.ver
structure Stt.Ok (s:Stt):Prop where
 seq:B3 s.seq
 l:∀ e∈s.l,e.Ok
 ms:∀ m∈s.ms,m.Ok
 lows:∀ x∈s.lows,B3 x
def B2A (a b:Int):Int:=if a<b then -1 else if b<a then 1 else 0
def B2h (a b:ByteArray):Int:=if C6 a b then -1 else if C6 b a then 1 else 0
theorem A24 (n:Int) (w:World):Calls Tryz.prog 287 #[.int .i64 n] w (C8 (.bool false) w):=by
 refine vE Tryz.func287 ?_
 refine⟨B7 ?_,Below.refl _ _⟩
 simp
theorem A25 (n:ByteArray) (w:World):Calls Tryz.prog 319 #[.string n] w (C8 (.bool false) w):=by
 refine vE Tryz.func319 ?_
 refine⟨B7 ?_,Below.refl _ _⟩
 simp [D3]
theorem B2i (a b:Int) (w:World):Calls Tryz.prog 267 #[.int .i64 a,.int .i64 b] w (C8 (.int .i64 (B2A a b)) w):=by
 refine vE Tryz.func267 ?_
 refine B4 (A24 a _) ?_
 intro w1 h1
 refine B4 (A24 b _) ?_
 intro w2 h2
 have hb:=h1.trans (h2.mono h1.size)
 rcases Int.lt_or_le a b with c | c
 ·refine dt c ?_
  exact⟨Y6 (by rw [B2A,if_pos c]),hb⟩
 refine df (by omega) ?_
 rcases Int.lt_or_le b a with d | d
 ·refine dt d ?_
  exact⟨Y6 (by rw [B2A,if_neg (by omega),if_pos d]),hb⟩
 refine df (by omega) ?_
 exact⟨Y6 (by rw [B2A,if_neg (by omega),if_neg (by omega)]),hb⟩
theorem B2j (a b:ByteArray) (w:World):Calls Tryz.prog 290 #[.string a,.string b] w (C8 (.int .i64 (B2h a b)) w):=by
 refine vE Tryz.func290 ?_
 refine B4 (A25 a _) ?_
 intro w1 h1
 refine B4 (A25 b _) ?_
 intro w2 h2
 have hb:=h1.trans (h2.mono h1.size)
 have e0:B2h a b=if C6 a b then -1 else if C6 b a then 1 else 0:=rfl
 have ht:=A1r a b
 have he:D3 a b=D3 b a:=by
  rw [Bool.eq_iff_iff,D2,D2]
  exact eq_comm
 generalize B2h a b=r at e0 ⊢
 rcases Bool.eq_false_or_eq_true (C6 a b) with c | c
 ·refine B0 c ?_
  exact⟨Y6 (by rw [e0,c];rfl),hb⟩
 refine C3X c ?_
 rcases Bool.eq_false_or_eq_true (D3 a b) with d | d
 ·refine C3X (by rw [c,d];rfl) ?_
  have:C6 b a=false:=by
   rw [D2] at d
   rw [d];exact A0z _
  exact⟨Y6 (by rw [e0,c,this];rfl),hb⟩
 ·refine B0 (by rw [c,d];rfl) ?_
  have:C6 b a=true:=by
   rw [c,<-he,d] at ht
   simpa using ht.symm
  exact⟨Y6 (by rw [e0,c,this];rfl),hb⟩
theorem A7M (a b:Int):(B2A a b<0)=(a<b):=by
 unfold B2A
 apply propext
 by_cases h:a<b
 ·rw [if_pos h];simp [h]
 ·rw [if_neg h]
  by_cases k:b<a
  ·rw [if_pos k];simp [h]
  ·rw [if_neg k];simp [h]
theorem B0C (a b:Int) (h:¬ a<b):(B2A a b==0)=(a==b):=by
 unfold B2A
 rw [if_neg h]
 by_cases k:b<a
 ·rw [if_pos k,Bool.eq_iff_iff];simp;omega
 ·rw [if_neg k,Bool.eq_iff_iff];simp;omega
theorem A7N (a b:ByteArray):(B2h a b<0)=(C6 a b=true):=by
 unfold B2h
 apply propext
 cases h:C6 a b
 ·cases k:C6 b a<;>simp
 ·simp
theorem B0D (a b:ByteArray) (h:¬ C6 a b=true):(B2h a b==0)=D3 a b:=by
 have h:C6 a b=false:=by simpa using h
 have ht:=A1r a b
 have he:D3 a b=D3 b a:=by
  rw [Bool.eq_iff_iff,D2,D2]
  exact eq_comm
 unfold B2h
 rw [h] at ht ⊢
 rw [<-he] at ht
 cases k:C6 b a
 ·rw [k] at ht
  rw [show D3 a b=true from by simpa using ht.symm]
  rfl
 ·rw [B2W k |> fun e=>he.trans e]
  rfl
theorem A48 (m:Mem) (n:Int) (w:World):Calls Tryz.prog 266 #[.agg (F7 m).toArray,.int .i64 n] w (C8 (.int .i64 (B2A m.req n)) w):=by
 refine vE Tryz.func266 ?_
 intro g1 w1 h1
 have hc:=((Ctx.start w no (fun _ h=>h.elim)).loc h1).1
 refine hc.c 0 rfl rfl ?_
 refine B4 (B2i m.req n _) ?_
 intro w2 h2
 exact⟨rfl,(hc.quiet h2).1.below⟩
theorem A49 (k n:ByteArray) (A:Option Addr) (len cap:Nat) (w:World):Calls Tryz.prog 289 #[.agg #[.string k,.slice A len cap],.string n] w (C8 (.int .i64 (B2h k n)) w):=by
 refine vE Tryz.func289 ?_
 intro g1 w1 h1
 have hc:=((Ctx.start w no (fun _ h=>h.elim)).loc h1).1
 refine hc.c 0 rfl rfl ?_
 refine B4 (B2j k n _) ?_
 intro w2 h2
 exact⟨rfl,(hc.quiet h2).1.below⟩
theorem B0E:∀ (l:List Mem) (n:Int) (i:Nat),i<=l.length->(∀ k (h:k<l.length),k<i->l[k].req<n)->(∀ h:i<l.length,¬ l[i].req<n)->N5 l n=i
 | [],n,i,hi,_,_=>by rw [N5];simp at hi;exact hi.symm
 | x::r,n,0,hi,h1,h2=>by
  have this:¬ x.req<n:=h2 (by simp)
  rw [N5,if_neg this]
 | x::r,n,i+1,hi,h1,h2=>by
  have this:x.req<n:=h1 0 (by simp) (by omega)
  rw [N5,if_pos this,B0E r n i (by simpa using hi) (fun k h hk=>h1 (k+1) (by simpa using h) (by omega)) (fun h=>h2 (by simpa using h))]
theorem B5E (l:List Mem) (n:Int) (hp:l.Pairwise (fun a b=>a.req<b.req)) (hfit:l.length<=1000000) (A:Option Addr) (cap:Nat) (S:Nat->Prop) (w:World) (hR:Row S w A l.length cap (l.map F7).flatten):
  Calls Tryz.prog 265 #[.slice A l.length cap,.int .i64 n,.func (.func 266) #[] #[]] w (C8 (.tuple #[.int .i64 (N5 l n:Nat),.bool (V1 l n).isSome]) w):=by
 refine vE Tryz.func265 ?_
 have hM:=D4 hR
 have lt_of:∀ (i j:Nat) (hi:i<l.length) (hj:j<l.length),i<j->l[i].req<l[j].req:=fun i j hi hj h=>List.pairwise_iff_getElem.1 hp i j hi hj h
 refine⟨Nat × Nat,fun x=>[(0,.slice A l.length cap),(1,.int .i64 n),(2,.func (.func 266) #[] #[]),(8,.int .i64 l.length),(9,.int .i64 x.1),(10,.int .i64 x.2)],
  fun x w'=>x.1<=x.2/\x.2<=l.length/\(∀ k (h:k<l.length),k<x.1->l[k].req<n)/\(∀ k (h:k<l.length),x.2<=k->¬ l[k].req<n)/\Below w.heap.size w w',fun x _=>x.2-x.1,(0,l.length),
  ⟨rfl,rfl,rfl,rfl,rfl,rfl,trivial⟩,⟨Nat.zero_le _,Nat.le_refl _,fun k h h0=>absurd h0 (Nat.not_lt_zero _),fun k h h0=>by omega,Below.refl _ _⟩,?_⟩
 rintro⟨i,j⟩ w' u ⟨hij,hjn,hlo,hhi,hb⟩
 simp only at hij hjn hlo hhi
 rcases Nat.lt_or_ge i j with c | c
 ·refine dt (by show (i:Int)<(j:Int);omega) ?_
  refine⟨⟨by decide,by decide⟩,?_⟩
  have hw:IntKind.i64.wrap (IntKind.u64.wrap (IntKind.i64.wrap ((i:Int)+(j:Int))) / 2 ^ ((1:Int).toNat))=(((i+j) / 2:Nat):Int):=by
   rw [IntWalk.i64_in ((i:Int)+j) ⟨by omega,by omega⟩,IntWalk.u64_in _ ⟨by omega,by omega⟩,show (2:Int) ^ ((1:Int).toNat)=2 from rfl,IntWalk.i64_in _ ⟨by omega,by omega⟩]
   omega
  have hh:(i+j) / 2<l.length:=by omega
  obtain⟨ad,e1,hcell⟩:=RowM.elem (hR.below hb) ((i+j) / 2) hh
  subst e1
  refine⟨⟨by rw [hw];omega,by rw [hw];omega⟩,?_⟩
  refine⟨F7 l[(i+j) / 2],rfl,by rw [hw,Int.toNat_natCast];exact hcell,?_⟩
  refine B4 (A48 l[(i+j) / 2] n _) ?_
  intro w3 h3
  have hb3:=hb.trans (h3.mono hb.size)
  by_cases d:l[(i+j) / 2].req<n
  ·refine dt (by rw [A7M];exact d) ?_
   refine⟨((i+j) / 2+1,j),⟨rfl,rfl,rfl,rfl,?_,rfl,trivial⟩,⟨by show (i+j) / 2+1<=j;omega,hjn,fun k h hk=>?_,hhi,hb3⟩,by show j-((i+j) / 2+1)<j-i;omega⟩
   ·show Value.int .i64 (IntKind.i64.wrap (IntKind.i64.wrap (IntKind.u64.wrap (IntKind.i64.wrap ((i:Int)+(j:Int))) / 2 ^ ((1:Int).toNat))+1))=_
    rw [hw,C3 (by omega)]
   ·rcases Nat.lt_or_ge k ((i+j) / 2) with e | e
    ·exact Int.lt_trans (lt_of k _ h hh e) d
    ·have:k=(i+j) / 2:=by simp only at hk;omega
     subst this;exact d
  ·refine df (by rw [A7M];exact d) ?_
   refine⟨(i,(i+j) / 2),⟨rfl,rfl,rfl,rfl,rfl,congrArg _ hw,trivial⟩,⟨by show i<=(i+j) / 2;omega,by show (i+j) / 2<=l.length;omega,hlo,fun k h hk=>?_,hb3⟩,by show (i+j) / 2-i<j-i;omega⟩
   intro hk2
   rcases Nat.lt_or_ge ((i+j) / 2) k with e | e
   ·exact d (Int.lt_trans (lt_of _ k hh h e) hk2)
   ·have:k=(i+j) / 2:=by simp only at hk;omega
    subst this;exact d hk2
 refine df (by show ¬ (i:Int)<(j:Int);omega) ?_
 have hij:i=j:=by omega
 subst hij
 have hpos:N5 l n=i:=B0E l n i hjn hlo (fun h=>hhi i h (Nat.le_refl _))
 have e0:V1 l n=match l[i]? with | some x=>if x.req==n then some x else none | none=>none:=by rw [V1,hpos];rfl
 rw [hpos]
 generalize V1 l n=r at e0 ⊢
 rcases Nat.lt_or_ge i l.length with c | c
 ·refine dt (by show (i:Int)<(l.length:Int);omega) ?_
  obtain⟨ad,e1,hcell⟩:=RowM.elem (hR.below hb) i c
  subst e1
  refine⟨⟨by show (0:Int)<=(i:Int);omega,by show (i:Int)<(l.length:Int);omega⟩,?_⟩
  refine⟨F7 l[i],rfl,hcell,?_⟩
  refine B4 (A48 l[i] n _) ?_
  intro w3 h3
  have hb3:=hb.trans (h3.mono hb.size)
  rw [List.getElem?_eq_getElem c] at e0
  have hz:=B0C l[i].req n (hhi i c (Nat.le_refl _))
  have e1:r.isSome=(B2A l[i].req n==0):=by
   rw [e0,hz]
   show (if l[i].req==n then some l[i] else none).isSome=_
   split
   ·rename_i h;rw [h];rfl
   ·rename_i h;rw [show (l[i].req==n)=false from by simpa using h];rfl
  rw [e1]
  exact⟨rfl,hb3⟩
 ·refine df (by show ¬ (i:Int)<(l.length:Int);omega) ?_
  rw [List.getElem?_eq_none c] at e0
  rw [e0]
  exact⟨rfl,hb⟩
theorem B0F:∀ (l:List Ent) (n:ByteArray) (i:Nat),i<=l.length->(∀ k (h:k<l.length),k<i->C6 l[k].key n=true)->(∀ h:i<l.length,¬ C6 l[i].key n=true)->posK l n=i
 | [],n,i,hi,_,_=>by rw [posK];simp at hi;exact hi.symm
 | x::r,n,0,hi,h1,h2=>by
  have this:¬ C6 x.key n=true:=h2 (by simp)
  rw [posK,if_neg this]
 | x::r,n,i+1,hi,h1,h2=>by
  have this:C6 x.key n=true:=h1 0 (by simp) (by omega)
  rw [posK,if_pos this,B0F r n i (by simpa using hi) (fun k h hk=>h1 (k+1) (by simpa using h) (by omega)) (fun h=>h2 (by simpa using h))]
theorem B5F (l:List Ent) (n:ByteArray) (hp:l.Pairwise (fun a b=>C6 a.key b.key=true)) (hfit:l.length<=1000000) (A:Option Addr) (cap:Nat) (S:Nat->Prop) (w:World) (css:List (List Value)) (hE:RepEs S w l css) (hR:Row S w A l.length cap css.flatten):
  Calls Tryz.prog 288 #[.slice A l.length cap,.string n,.func (.func 289) #[] #[]] w (C8 (.tuple #[.int .i64 (posK l n:Nat),.bool (E8 l n).isSome]) w):=by
 refine vE Tryz.func288 ?_
 have hM:=D4 hR
 have lt_of:∀ (i j:Nat) (hi:i<l.length) (hj:j<l.length),i<j->C6 l[i].key l[j].key=true:=fun i j hi hj h=>List.pairwise_iff_getElem.1 hp i j hi hj h
 refine⟨Nat × Nat,fun x=>[(0,.slice A l.length cap),(1,.string n),(2,.func (.func 289) #[] #[]),(8,.int .i64 l.length),(9,.int .i64 x.1),(10,.int .i64 x.2)],
  fun x w'=>x.1<=x.2/\x.2<=l.length/\(∀ k (h:k<l.length),k<x.1->C6 l[k].key n=true)/\(∀ k (h:k<l.length),x.2<=k->¬ C6 l[k].key n=true)/\Below w.heap.size w w',fun x _=>x.2-x.1,(0,l.length),
  ⟨rfl,rfl,rfl,rfl,rfl,rfl,trivial⟩,⟨Nat.zero_le _,Nat.le_refl _,fun k h h0=>absurd h0 (Nat.not_lt_zero _),fun k h h0=>by omega,Below.refl _ _⟩,?_⟩
 rintro⟨i,j⟩ w' u ⟨hij,hjn,hlo,hhi,hb⟩
 simp only at hij hjn hlo hhi
 rcases Nat.lt_or_ge i j with c | c
 ·refine dt (by show (i:Int)<(j:Int);omega) ?_
  refine⟨⟨by decide,by decide⟩,?_⟩
  have hw:IntKind.i64.wrap (IntKind.u64.wrap (IntKind.i64.wrap ((i:Int)+(j:Int))) / 2 ^ ((1:Int).toNat))=(((i+j) / 2:Nat):Int):=by
   rw [IntWalk.i64_in ((i:Int)+j) ⟨by omega,by omega⟩,IntWalk.u64_in _ ⟨by omega,by omega⟩,show (2:Int) ^ ((1:Int).toNat)=2 from rfl,IntWalk.i64_in _ ⟨by omega,by omega⟩]
   omega
  have hh:(i+j) / 2<l.length:=by omega
  obtain⟨ad,A1,cap1,e1,hcell,_⟩:=RowE.elem (hR.below hb) (hE.below hb) ((i+j) / 2) hh
  subst e1
  refine⟨⟨by rw [hw];omega,by rw [hw];omega⟩,?_⟩
  refine⟨[.string l[(i+j) / 2].key,.slice A1 l[(i+j) / 2].vs.length cap1],rfl,by rw [hw,Int.toNat_natCast];exact hcell,?_⟩
  refine B4 (A49 l[(i+j) / 2].key n A1 l[(i+j) / 2].vs.length cap1 _) ?_
  intro w3 h3
  have hb3:=hb.trans (h3.mono hb.size)
  by_cases d:C6 l[(i+j) / 2].key n=true
  ·refine dt (by rw [A7N];exact d) ?_
   refine⟨((i+j) / 2+1,j),⟨rfl,rfl,rfl,rfl,?_,rfl,trivial⟩,⟨by show (i+j) / 2+1<=j;omega,hjn,fun k h hk=>?_,hhi,hb3⟩,by show j-((i+j) / 2+1)<j-i;omega⟩
   ·show Value.int .i64 (IntKind.i64.wrap (IntKind.i64.wrap (IntKind.u64.wrap (IntKind.i64.wrap ((i:Int)+(j:Int))) / 2 ^ ((1:Int).toNat))+1))=_
    rw [hw,C3 (by omega)]
   ·rcases Nat.lt_or_ge k ((i+j) / 2) with e | e
    ·exact R4 (lt_of k _ h hh e) d
    ·have:k=(i+j) / 2:=by simp only at hk;omega
     subst this;exact d
  ·refine df (by rw [A7N];exact d) ?_
   refine⟨(i,(i+j) / 2),⟨rfl,rfl,rfl,rfl,rfl,congrArg _ hw,trivial⟩,⟨by show i<=(i+j) / 2;omega,by show (i+j) / 2<=l.length;omega,hlo,fun k h hk=>?_,hb3⟩,by show (i+j) / 2-i<j-i;omega⟩
   intro hk2
   rcases Nat.lt_or_ge ((i+j) / 2) k with e | e
   ·exact d (R4 (lt_of _ k hh h e) hk2)
   ·have:k=(i+j) / 2:=by simp only at hk;omega
    subst this;exact d hk2
 refine df (by show ¬ (i:Int)<(j:Int);omega) ?_
 have hij:i=j:=by omega
 subst hij
 have hpos:posK l n=i:=B0F l n i hjn hlo (fun h=>hhi i h (Nat.le_refl _))
 have e0:E8 l n=match l[i]? with | some x=>if D3 x.key n then some x else none | none=>none:=by rw [E8,hpos];rfl
 rw [hpos]
 generalize E8 l n=r at e0 ⊢
 rcases Nat.lt_or_ge i l.length with c | c
 ·refine dt (by show (i:Int)<(l.length:Int);omega) ?_
  obtain⟨ad,A1,cap1,e1,hcell,_⟩:=RowE.elem (hR.below hb) (hE.below hb) i c
  subst e1
  refine⟨⟨by show (0:Int)<=(i:Int);omega,by show (i:Int)<(l.length:Int);omega⟩,?_⟩
  refine⟨[.string l[i].key,.slice A1 l[i].vs.length cap1],rfl,hcell,?_⟩
  refine B4 (A49 l[i].key n A1 l[i].vs.length cap1 _) ?_
  intro w3 h3
  have hb3:=hb.trans (h3.mono hb.size)
  rw [List.getElem?_eq_getElem c] at e0
  have hz:=B0D l[i].key n (hhi i c (Nat.le_refl _))
  have e1:r.isSome=(B2h l[i].key n==0):=by
   rw [e0,hz]
   show (if D3 l[i].key n then some l[i] else none).isSome=_
   split
   ·rename_i h;rw [h];rfl
   ·rename_i h;rw [show (D3 l[i].key n)=false from by simpa using h];rfl
  rw [e1]
  exact⟨rfl,hb3⟩
 ·refine df (by show ¬ (i:Int)<(l.length:Int);omega) ?_
  rw [List.getElem?_eq_none c] at e0
  rw [e0]
  exact⟨rfl,hb⟩
theorem B2k (s:Stt) (n:Int) (hp:s.ms.Pairwise (fun a b=>a.req<b.req)) (hfit:s.ms.length<=1000000) (cs:List Value) (S:Nat->Prop) (w:World) (hs:RepS S w s cs):Calls Tryz.prog 234 #[.agg cs.toArray,.int .i64 n] w (C8 (.tuple #[.int .i64 (N5 s.ms n:Nat),.bool (V1 s.ms n).isSome]) w):=by
 obtain⟨A,cap,css,B,cap',l0,l1,l2,l3,l4,rfl,el,hE,hR,hM⟩:=hs.shape
 refine vE Tryz.func234 ?_
 intro g1 w1 h1
 have hc:=((Ctx.start w no (fun _ h=>h.elim)).loc h1).1
 refine hc.c 0 rfl rfl ?_
 refine B4 (B5E s.ms n hp hfit B cap' S w1 (hM.below hc.below)) ?_
 intro w2 h2
 exact⟨rfl,(hc.quiet h2).1.below⟩
theorem A7O (s:Stt) (n:ByteArray) (hp:s.l.Pairwise (fun a b=>C6 a.key b.key=true)) (hfit:s.l.length<=1000000) (cs:List Value) (S:Nat->Prop) (w:World) (hs:RepS S w s cs):Calls Tryz.prog 268 #[.agg cs.toArray,.string n] w (C8 (.tuple #[.int .i64 (posK s.l n:Nat),.bool (E8 s.l n).isSome]) w):=by
 obtain⟨A,cap,css,B,cap',l0,l1,l2,l3,l4,rfl,el,hE,hR,hM⟩:=hs.shape
 refine vE Tryz.func268 ?_
 intro g1 w1 h1
 have hc:=((Ctx.start w no (fun _ h=>h.elim)).loc h1).1
 refine hc.c 0 rfl rfl ?_
 refine B4 (B5F s.l n hp hfit A cap S w1 css (hE.below hc.below) (hR.below hc.below)) ?_
 intro w2 h2
 exact⟨rfl,(hc.quiet h2).1.below⟩
theorem Blk.shape {w:World} {g T:Nat} {cs:List Value} (h:Blk w g T cs):w.shape? g=some (T,cs.length):=by
 unfold Blk at h
 unfold World.shape?
 rw [h]
 simp
theorem B0G (w:World) (vb g T T' la ca lb cb:Nat) (b:Addr) (c cur:List Value) (hv:Blk w vb T c) (hg:Blk w g T' cur) (hb:b.block=g) (hne:vb≠g) (hcur:cur.length≠0) {y:Value} (ey:y=.slice (some b) lb cb):
  (callFunc 273 #[.slice (some ⟨vb,0,none⟩) la ca,y]).run Tryz.prog w=.ok (.value (.bool false)) w:=by
 subst ey
 rw [run_callFunc_extern Tryz.func273 (by kernel_rfl) (by kernel_rfl) (by kernel_rfl) (show Extern.find _=some (Extern.SlicesOverlaps.overlaps #[38,38] #[4]) by kernel_rfl)]
 rw [Lib.run_overlaps_apart w 38 4 101 Tryz.underlying38 3 (fun w=>by kernel_rfl) ⟨vb,0,none⟩ b la ca lb cb (by rw [hb];exact hne) T T' c.length cur.length (Blk.shape hv) (by rw [hb];exact Blk.shape hg) hcur (hv.frozen 0) (hv.frozen c.length)]
 rfl
theorem A11 {S0 S:Nat->Prop} {w0 w:World} {l:List LB} (hc:Ctx S0 w0 S w l) (css:List (List Value)) (hF:Flat 3 css) (hn:css.length<=1000000) {A:Option Addr} {cap:Nat} (ho:Own S w0.heap.size w l 101 3 A css.length cap css.flatten)
  (i:Nat) (hi:i<=css.length) (kv vb:Nat) (c:List Value) (hkv:l[kv]?=some (vb,101,c)) (hcl:c.length=3) (hc1:D7 c=true):
  Calls Tryz.prog 236 #[.slice A css.length cap,.int .i64 i,.slice (some ⟨vb,0,none⟩) 1 1] w (fun en w'=>∃ A' cap',en=.returned (.slice A' (css.length+1) cap')/\Ctx S0 w0 S w' l/\Fut S w S w'/\Own S w0.heap.size w' l 101 3 A' (css.length+1) cap' ((css.take i).flatten++c++(css.drop i).flatten)):=by
 obtain⟨f1,f2⟩:=ho.fit
 have hM:cap<=9223372036854775807:=Nat.le_trans f2 (by decide)
 have hlen:=hF.len
 generalize hnn:css.length=n at*
 refine vE Tryz.func236 ?_
 refine⟨⟨by omega,by omega,by omega,by omega⟩,?_⟩
 rcases Nat.lt_or_ge i n with hlt | hge
 rotate_left
 ·have hin:i=n:=by omega
  subst hin
  refine B0 (by show ((i:Int)==(i:Int))=true;simp) ?_
  refine R0 Tryz.underlying38 A1z rfl (by decide) hc ho (ys:=c) (by rw [hcl]) (hc.cells kv hkv) hc1 (by omega) (by decide) ?_
  intro A' cap' w1 hc1 hf ho _
  refine⟨A',cap',rfl,hc1,hf,?_⟩
  rw [List.take_of_length_le (by omega),List.drop_of_length_le (by omega),List.flatten_nil,List.append_nil]
  exact ho
 refine C3X (by show ((i:Int)==(n:Int))=false;rw [beq_eq_false_iff_ne];omega) ?_
 cases hA:A with
 | none=>
  obtain⟨h0,_⟩:=ho.none' hA
  omega
 | some a=>
 obtain⟨g,cur,e1,hc,hcur,hct,_,_⟩:=ho.opened hc hA
 rw [hA] at e1
 cases e1
 have hkv1:((g,101,cur)::l)[kv+1]?=some (vb,101,c):=by simpa using hkv
 have hne:vb≠g:=(ho.out _ hA).2 _ (List.mem_of_getElem? hkv)
 have hw1:IntKind.i64.wrap ((n:Int)+((1:Nat):Int))=(n:Int)+1:=E0 _ _ (by omega) (by omega)
 have hwi:IntKind.i64.wrap ((i:Int)+((1:Nat):Int))=(i:Int)+1:=E0 _ _ (by omega) (by omega)
 have htl:(css.take i).flatten.length=i*3:=by rw [(hF.take _).len,List.length_take];omega
 have hdl:(css.drop i).flatten.length=(n-i)*3:=by rw [(hF.drop _).len,List.length_drop];omega
 have htake:cur.take (i*3)=(css.take i).flatten:=by rw [hF.flat_take,<-hct,List.take_take];congr 1;omega
 have hdrop:(cur.drop (i*3)).take (css.drop i).flatten.length=(css.drop i).flatten:=by
  rw [hF.flat_drop,<-hct,List.drop_take,List.length_take,List.length_drop,hcur]
  congr 1
  omega
 refine⟨_,fun w=>A9s Tryz.underlying38 _ _ _ w,?_⟩
 rcases Nat.lt_or_ge cap (n+1) with hroom | hroom
 ·refine dt (by rw [hw1];omega) ?_
  have hfe:(if (cap:Int)=0 then some (⟨g,0,none⟩:Addr) else (some (⟨g,0,none⟩:Addr)).map (·.add ((0:Int).toNat*3)))=some ⟨g,0,none⟩:=W2 _ _ _
  refine⟨⟨by omega,by omega,by omega,by omega⟩,?_⟩
  have hkk:IntKind.i64.wrap (IntKind.i64.wrap ((n:Int)+((1:Nat):Int))-(i:Int))=((n+1-i:Nat):Int):=by rw [hw1,IntWalk.i64_in _ ⟨by omega,by omega⟩];omega
  refine A4u Tryz.underlying38 Tryz.underlying3 A1z rfl (by decide) hc hcur (n:=i) (k:=n+1-i) (kq:=.i64) (by omega) (by omega) (by omega) (by omega) (by decide) ?_ (congrArg _ hkk) ?_
  ·show Value.slice (if (cap:Int)=0 then some (⟨g,0,none⟩:Addr) else (some (⟨g,0,none⟩:Addr)).map (·.add ((0:Int).toNat*3))) ((i:Int)-0).toNat ((cap:Int)-0).toNat=_
   rw [hfe]
   congr 1<;>omega
  intro g2 cap2 cur2 w2 hc hf2 hcl2 hcap2 hmx2 htk2
  have hkv2:((g2,101,cur2)::(g,101,cur)::l)[kv+2]?=some (vb,101,c):=by simpa using hkv
  have hlen2:i+(n+1-i)=n+1:=by omega
  have hM2:cap2<=9223372036854775807:=Nat.le_trans hmx2 (by decide)
  refine⟨⟨by omega,by omega,by omega,by omega⟩,?_⟩
  refine N9 Tryz.underlying38 A1z (da:=⟨g2,i*3,none⟩) (sa:=⟨vb,0,none⟩) (dn:=n+1-i) (dc:=cap2-i) (sn:=1) (sc:=1) (xs:=c) (by rw [hcl,show Nat.min 1 (n+1-i)=1 from Nat.min_eq_left (by omega)]) (hc.cells (kv+2) hkv2) (hc.may 0 rfl _ _ (by rw [hcl2,hcl];omega) hc1) ?_ rfl ?_
  ·show Value.slice (if (cap2:Int)=(i:Int) then some (⟨g2,0,none⟩:Addr) else (some (⟨g2,0,none⟩:Addr)).map (·.add ((i:Int).toNat*3))) (((i+(n+1-i):Nat):Int)-(i:Int)).toNat ((cap2:Int)-(i:Int)).toNat=_
   rw [Y9 g2 cap2 3 (i:Int) i rfl (by omega)]
   congr 1<;>omega
  intro w3 h3
  have hC3:=hc.set 0 rfl h3
  have hc:=hC3.1
  have hl3:(C0 cur2 (i*3) c).length=cap2*3:=by rw [putAt_len,hcl2]
  refine vD (.Q [0,1,2,3,4,5,6,7] (.n 8 .fin .stop)) (fun _=>True) trivial ?_
  have hc:=hc.drew
  refine⟨⟨by rw [hwi];omega,by rw [hwi];omega,by omega,by omega⟩,?_⟩
  refine⟨⟨by omega,by omega,by omega,by omega⟩,?_⟩
  refine⟨N9 Tryz.underlying38 A1z (da:=⟨g2,(i+1)*3,none⟩) (sa:=⟨g,i*3,none⟩) (dn:=n-i) (dc:=cap2-(i+1)) (sn:=n-i) (sc:=cap-i) (xs:=(css.drop i).flatten) (by rw [show Nat.min (n-i) (n-i)=n-i from Nat.min_self _,hdl]) (hc.cellsAt 1 rfl _ _ hdrop) (hc.may 0 rfl _ _ (by rw [hdl,hl3,<-Nat.add_mul];exact Nat.mul_le_mul_right _ (by omega)) (hF.drop _).ones) ?_ ?_ ?_,trivial⟩
  ·show Value.slice (if (cap2:Int)=(IntKind.i64.wrap ((i:Int)+((1:Nat):Int))) then some (⟨g2,0,none⟩:Addr) else (some (⟨g2,0,none⟩:Addr)).map (·.add ((IntKind.i64.wrap ((i:Int)+((1:Nat):Int))).toNat*3))) (((i+(n+1-i):Nat):Int)-(IntKind.i64.wrap ((i:Int)+((1:Nat):Int)))).toNat ((cap2:Int)-(IntKind.i64.wrap ((i:Int)+((1:Nat):Int)))).toNat=_
   rw [Y9 g2 cap2 3 (IntKind.i64.wrap ((i:Int)+((1:Nat):Int))) (i+1) (by rw [hwi];rfl) (by omega),hwi]
   congr 1<;>omega
  ·show Value.slice (if (cap:Int)=(i:Int) then some (⟨g,0,none⟩:Addr) else (some (⟨g,0,none⟩:Addr)).map (·.add ((i:Int).toNat*3))) ((n:Int)-(i:Int)).toNat ((cap:Int)-(i:Int)).toNat=_
   rw [Y9 g cap 3 (i:Int) i rfl (by omega)]
   congr 1<;>omega
  intro w4 h4
  refine⟨trivial,?_⟩
  have hC4:=hc.set 0 rfl h4
  have hc:=hC4.1
  have hput:=E5 c cur2 (i*3) (by rw [hcl2,hcl];omega)
  have hput2:=E5 (css.drop i).flatten (C0 cur2 (i*3) c) ((i+1)*3) (by rw [hdl,hl3,<-Nat.add_mul];exact Nat.mul_le_mul_right _ (by omega))
  have hfin:(C0 (C0 cur2 (i*3) c) ((i+1)*3) (css.drop i).flatten).take ((n+1)*3)=(css.take i).flatten++c++(css.drop i).flatten:=by
   have e1:(C0 cur2 (i*3) c).take ((i+1)*3)=(css.take i).flatten++c:=by
    rw [hput,htk2,htake,List.take_left' (by rw [List.length_append,htl,hcl];omega)]
   rw [hput2,e1,List.take_left' (by rw [List.length_append,List.length_append,htl,hcl,hdl];omega)]
  obtain⟨hc,ho⟩:=Ctx.closed hc 3 (n+1) cap2 (by omega) hmx2 (by rw [putAt_len,hl3])
  rw [hfin] at ho
  refine⟨some ⟨g2,0,none⟩,cap2,?_,hc.drop,hf2.trans (hC3.2.trans hC4.2),ho.drop⟩
  show Ending.returned (.slice (some ⟨g2,0,none⟩) (i+(n+1-i)) cap2)=_
  rw [hlen2]
 ·refine df (by rw [hw1];omega) ?_
  have hcapi:(((cap:Int)-0).toNat:Int)=cap:=by omega
  have hlen1:((IntKind.i64.wrap ((n:Int)+((1:Nat):Int))-0).toNat:Int)=n+1:=by rw [hw1];omega
  refine⟨⟨by omega,by rw [hw1];omega,by rw [hw1];omega,by omega⟩,?_⟩
  have hfe:(if (cap:Int)=0 then some (⟨g,0,none⟩:Addr) else (some (⟨g,0,none⟩:Addr)).map (·.add ((0:Int).toNat*3)))=some ⟨g,0,none⟩:=W2 _ _ _
  refine⟨⟨by rw [hwi];omega,by rw [hwi,hw1];omega,by rw [hw1];omega,by omega⟩,?_⟩
  have hB1:=hc.blk 0 rfl
  have hBv:=hc.blk (kv+1) hkv1
  refine⟨_,_,B0G w vb g _ _ 1 1 (n-i) (cap-(i+1)) ⟨g,(i+1)*3,none⟩ c cur hBv hB1 rfl hne (by rw [hcur];omega) (ey:=?ey),?_⟩
  case ey=>
   show Value.slice (if (((cap:Int)-0).toNat:Int)=(IntKind.i64.wrap ((i:Int)+((1:Nat):Int))) then (if (cap:Int)=0 then some (⟨g,0,none⟩:Addr) else (some (⟨g,0,none⟩:Addr)).map (·.add ((0:Int).toNat*3))) else (if (cap:Int)=0 then some (⟨g,0,none⟩:Addr) else (some (⟨g,0,none⟩:Addr)).map (·.add ((0:Int).toNat*3))).map (·.add ((IntKind.i64.wrap ((i:Int)+((1:Nat):Int))).toNat*3))) (((IntKind.i64.wrap ((n:Int)+((1:Nat):Int))-0).toNat:Int)-(IntKind.i64.wrap ((i:Int)+((1:Nat):Int)))).toNat ((((cap:Int)-0).toNat:Int)-(IntKind.i64.wrap ((i:Int)+((1:Nat):Int)))).toNat=_
   rw [hwi,hcapi,hlen1,hfe,if_neg (by omega),Option.map_some,Addr.add_lit,Nat.zero_add,show ((i:Int)+1).toNat=i+1 by omega]
   congr 1<;>omega
  refine vD (.Q [0,1,2,3,4,5,6,7] (.n 8 .fin .stop)) (fun _=>True) trivial ?_
  have hc:=hc.drew
  refine⟨⟨by rw [hwi];omega,by rw [hwi,hw1];omega,by rw [hw1];omega,by omega⟩,?_⟩
  refine⟨⟨by omega,by rw [hw1];omega,by rw [hw1];omega,by omega⟩,?_⟩
  refine⟨?_,trivial⟩
  have hmn:Nat.min (n+1-i) (n-i)=n-i:=Nat.min_eq_right (by omega)
  refine N9 Tryz.underlying38 A1z (da:=⟨g,(i+1)*3,none⟩) (sa:=⟨g,i*3,none⟩) (dn:=n-i) (dc:=cap-(i+1)) (sn:=n+1-i) (sc:=cap-i) (xs:=(css.drop i).flatten) (by rw [hmn,hdl]) (hc.cellsAt 0 rfl _ _ hdrop) (hc.may 0 rfl _ _ (by rw [hdl,hcur,<-Nat.add_mul];exact Nat.mul_le_mul_right _ (by omega)) (hF.drop _).ones) ?_ ?_ ?_
  ·show Value.slice (if (((cap:Int)-0).toNat:Int)=(IntKind.i64.wrap ((i:Int)+((1:Nat):Int))) then (if (cap:Int)=0 then some (⟨g,0,none⟩:Addr) else (some (⟨g,0,none⟩:Addr)).map (·.add ((0:Int).toNat*3))) else (if (cap:Int)=0 then some (⟨g,0,none⟩:Addr) else (some (⟨g,0,none⟩:Addr)).map (·.add ((0:Int).toNat*3))).map (·.add ((IntKind.i64.wrap ((i:Int)+((1:Nat):Int))).toNat*3))) (((IntKind.i64.wrap ((n:Int)+((1:Nat):Int))-0).toNat:Int)-(IntKind.i64.wrap ((i:Int)+((1:Nat):Int)))).toNat ((((cap:Int)-0).toNat:Int)-(IntKind.i64.wrap ((i:Int)+((1:Nat):Int)))).toNat=_
   rw [hwi,hcapi,hlen1,hfe,if_neg (by omega),Option.map_some,Addr.add_lit,Nat.zero_add,show ((i:Int)+1).toNat=i+1 by omega]
   congr 1<;>omega
  ·show Value.slice (if (((cap:Int)-0).toNat:Int)=(i:Int) then (if (cap:Int)=0 then some (⟨g,0,none⟩:Addr) else (some (⟨g,0,none⟩:Addr)).map (·.add ((0:Int).toNat*3))) else (if (cap:Int)=0 then some (⟨g,0,none⟩:Addr) else (some (⟨g,0,none⟩:Addr)).map (·.add ((0:Int).toNat*3))).map (·.add ((i:Int).toNat*3))) (((IntKind.i64.wrap ((n:Int)+((1:Nat):Int))-0).toNat:Int)-(i:Int)).toNat ((((cap:Int)-0).toNat:Int)-(i:Int)).toNat=_
   rw [hcapi,hlen1,hfe,if_neg (by omega),Option.map_some,Addr.add_lit,Nat.zero_add,Int.toNat_natCast]
   congr 1<;>omega
  intro w2 h2
  refine⟨trivial,?_⟩
  have hC:=hc.set 0 rfl h2
  have hc:=hC.1
  refine⟨⟨by omega,by rw [hw1];omega,by rw [hw1];omega,by omega⟩,?_⟩
  have hkv2:(F4 ((g,101,cur)::l) 0 (C0 cur ((i+1)*3) (css.drop i).flatten))[kv+1]?=some (vb,101,c):=hkv1
  have hl2:(C0 cur ((i+1)*3) (css.drop i).flatten).length=cap*3:=by rw [putAt_len,hcur]
  have hput:C0 cur ((i+1)*3) (css.drop i).flatten=cur.take ((i+1)*3)++(css.drop i).flatten++cur.drop ((i+1)*3+(css.drop i).flatten.length):=E5 _ _ _ (by rw [hdl,hcur,<-Nat.add_mul];exact Nat.mul_le_mul_right _ (by omega))
  refine N9 Tryz.underlying38 A1z (da:=⟨g,i*3,none⟩) (sa:=⟨vb,0,none⟩) (dn:=n+1-i) (dc:=cap-i) (sn:=1) (sc:=1) (xs:=c) (by rw [hcl,show Nat.min 1 (n+1-i)=1 from Nat.min_eq_left (by omega)]) (hc.cells (kv+1) hkv2) (hc.may 0 rfl _ _ (by rw [hl2,hcl];omega) hc1) ?_ rfl ?_
  ·show Value.slice (if (((cap:Int)-0).toNat:Int)=(i:Int) then (if (cap:Int)=0 then some (⟨g,0,none⟩:Addr) else (some (⟨g,0,none⟩:Addr)).map (·.add ((0:Int).toNat*3))) else (if (cap:Int)=0 then some (⟨g,0,none⟩:Addr) else (some (⟨g,0,none⟩:Addr)).map (·.add ((0:Int).toNat*3))).map (·.add ((i:Int).toNat*3))) (((IntKind.i64.wrap ((n:Int)+((1:Nat):Int))-0).toNat:Int)-(i:Int)).toNat ((((cap:Int)-0).toNat:Int)-(i:Int)).toNat=_
   rw [hcapi,hlen1,hfe,if_neg (by omega),Option.map_some,Addr.add_lit,Nat.zero_add,Int.toNat_natCast]
   congr 1<;>omega
  intro w3 h3
  have hC3:=hc.set 0 rfl h3
  have hc:=hC3.1
  have hput2:=E5 c (C0 cur ((i+1)*3) (css.drop i).flatten) (i*3) (by rw [hl2,hcl];omega)
  have hfin:(C0 (C0 cur ((i+1)*3) (css.drop i).flatten) (i*3) c).take ((n+1)*3)=(css.take i).flatten++c++(css.drop i).flatten:=by
   have e1:(C0 cur ((i+1)*3) (css.drop i).flatten).take (i*3)=(css.take i).flatten:=by
    rw [hput,List.append_assoc,List.take_append_of_le_length (by rw [List.length_take,hcur];omega),List.take_take,Nat.min_eq_left (by omega),htake]
   have e2:(C0 cur ((i+1)*3) (css.drop i).flatten).drop (i*3+c.length)=(css.drop i).flatten++cur.drop ((i+1)*3+(css.drop i).flatten.length):=by
    rw [hput,List.append_assoc,List.drop_left' (by rw [List.length_take,hcur,hcl];omega)]
   rw [hput2,e1,e2,<-List.append_assoc,List.take_left' (by rw [List.length_append,List.length_append,htl,hcl,hdl];omega)]
  obtain⟨hc,ho⟩:=Ctx.closed hc 3 (n+1) cap hroom f2 (by rw [putAt_len,hl2])
  rw [hfin] at ho
  refine⟨some ⟨g,0,none⟩,cap,?_,hc,((Fut.refl S w).trans ⟨fun _ h=>h,fun _ _=>rfl⟩).trans (hC.2.trans hC3.2),ho⟩
  show Ending.returned (.slice (if (cap:Int)=0 then some (⟨g,0,none⟩:Addr) else (some (⟨g,0,none⟩:Addr)).map (·.add ((0:Int).toNat*3))) (IntKind.i64.wrap ((n:Int)+((1:Nat):Int))-0).toNat ((cap:Int)-0).toNat)=_
  have e1:(IntKind.i64.wrap ((n:Int)+((1:Nat):Int))-0).toNat=n+1:=by rw [hw1];omega
  have e2:((cap:Int)-0).toNat=cap:=by omega
  rw [hfe,e1,e2]
theorem B0H (w:World) (vb g T T' la ca lb cb:Nat) (b:Addr) (c cur:List Value) (hv:Blk w vb T c) (hg:Blk w g T' cur) (hb:b.block=g) (hne:vb≠g) (hcur:cur.length≠0) {y:Value} (ey:y=.slice (some b) lb cb):
  (callFunc 295 #[.slice (some ⟨vb,0,none⟩) la ca,y]).run Tryz.prog w=.ok (.value (.bool false)) w:=by
 subst ey
 rw [run_callFunc_extern Tryz.func295 (by kernel_rfl) (by kernel_rfl) (by kernel_rfl) (show Extern.find _=some (Extern.SlicesOverlaps.overlaps #[37,37] #[4]) by kernel_rfl)]
 rw [Lib.run_overlaps_apart w 37 4 99 Tryz.underlying37 2 (fun w=>by kernel_rfl) ⟨vb,0,none⟩ b la ca lb cb (by rw [hb];exact hne) T T' c.length cur.length (Blk.shape hv) (by rw [hb];exact Blk.shape hg) hcur (hv.frozen 0) (hv.frozen c.length)]
 rfl
theorem A12 {S0 S:Nat->Prop} {w0 w:World} {l:List LB} (hc:Ctx S0 w0 S w l) (css:List (List Value)) (hF:Flat 2 css) (hn:css.length<=1000000) {A:Option Addr} {cap:Nat} (ho:Own S w0.heap.size w l 99 2 A css.length cap css.flatten)
  (i:Nat) (hi:i<=css.length) (kv vb:Nat) (c:List Value) (hkv:l[kv]?=some (vb,99,c)) (hcl:c.length=2) (hc1:D7 c=true):
  Calls Tryz.prog 272 #[.slice A css.length cap,.int .i64 i,.slice (some ⟨vb,0,none⟩) 1 1] w (fun en w'=>∃ A' cap',en=.returned (.slice A' (css.length+1) cap')/\Ctx S0 w0 S w' l/\Fut S w S w'/\Own S w0.heap.size w' l 99 2 A' (css.length+1) cap' ((css.take i).flatten++c++(css.drop i).flatten)):=by
 obtain⟨f1,f2⟩:=ho.fit
 have hM:cap<=9223372036854775807:=Nat.le_trans f2 (by decide)
 have hlen:=hF.len
 generalize hnn:css.length=n at*
 refine vE Tryz.func272 ?_
 refine⟨⟨by omega,by omega,by omega,by omega⟩,?_⟩
 rcases Nat.lt_or_ge i n with hlt | hge
 rotate_left
 ·have hin:i=n:=by omega
  subst hin
  refine B0 (by show ((i:Int)==(i:Int))=true;simp) ?_
  refine R0 Tryz.underlying37 A03 rfl (by decide) hc ho (ys:=c) (by rw [hcl]) (hc.cells kv hkv) hc1 (by omega) (by decide) ?_
  intro A' cap' w1 hc1 hf ho _
  refine⟨A',cap',rfl,hc1,hf,?_⟩
  rw [List.take_of_length_le (by omega),List.drop_of_length_le (by omega),List.flatten_nil,List.append_nil]
  exact ho
 refine C3X (by show ((i:Int)==(n:Int))=false;rw [beq_eq_false_iff_ne];omega) ?_
 cases hA:A with
 | none=>
  obtain⟨h0,_⟩:=ho.none' hA
  omega
 | some a=>
 obtain⟨g,cur,e1,hc,hcur,hct,_,_⟩:=ho.opened hc hA
 rw [hA] at e1
 cases e1
 have hkv1:((g,99,cur)::l)[kv+1]?=some (vb,99,c):=by simpa using hkv
 have hne:vb≠g:=(ho.out _ hA).2 _ (List.mem_of_getElem? hkv)
 have hw1:IntKind.i64.wrap ((n:Int)+((1:Nat):Int))=(n:Int)+1:=E0 _ _ (by omega) (by omega)
 have hwi:IntKind.i64.wrap ((i:Int)+((1:Nat):Int))=(i:Int)+1:=E0 _ _ (by omega) (by omega)
 have htl:(css.take i).flatten.length=i*2:=by rw [(hF.take _).len,List.length_take];omega
 have hdl:(css.drop i).flatten.length=(n-i)*2:=by rw [(hF.drop _).len,List.length_drop];omega
 have htake:cur.take (i*2)=(css.take i).flatten:=by rw [hF.flat_take,<-hct,List.take_take];congr 1;omega
 have hdrop:(cur.drop (i*2)).take (css.drop i).flatten.length=(css.drop i).flatten:=by
  rw [hF.flat_drop,<-hct,List.drop_take,List.length_take,List.length_drop,hcur]
  congr 1
  omega
 refine⟨_,fun w=>A9s Tryz.underlying37 _ _ _ w,?_⟩
 rcases Nat.lt_or_ge cap (n+1) with hroom | hroom
 ·refine dt (by rw [hw1];omega) ?_
  have hfe:(if (cap:Int)=0 then some (⟨g,0,none⟩:Addr) else (some (⟨g,0,none⟩:Addr)).map (·.add ((0:Int).toNat*2)))=some ⟨g,0,none⟩:=W2 _ _ _
  refine⟨⟨by omega,by omega,by omega,by omega⟩,?_⟩
  have hkk:IntKind.i64.wrap (IntKind.i64.wrap ((n:Int)+((1:Nat):Int))-(i:Int))=((n+1-i:Nat):Int):=by rw [hw1,IntWalk.i64_in _ ⟨by omega,by omega⟩];omega
  refine A4u Tryz.underlying37 Tryz.underlying3 A03 rfl (by decide) hc hcur (n:=i) (k:=n+1-i) (kq:=.i64) (by omega) (by omega) (by omega) (by omega) (by decide) ?_ (congrArg _ hkk) ?_
  ·show Value.slice (if (cap:Int)=0 then some (⟨g,0,none⟩:Addr) else (some (⟨g,0,none⟩:Addr)).map (·.add ((0:Int).toNat*2))) ((i:Int)-0).toNat ((cap:Int)-0).toNat=_
   rw [hfe]
   congr 1<;>omega
  intro g2 cap2 cur2 w2 hc hf2 hcl2 hcap2 hmx2 htk2
  have hkv2:((g2,99,cur2)::(g,99,cur)::l)[kv+2]?=some (vb,99,c):=by simpa using hkv
  have hlen2:i+(n+1-i)=n+1:=by omega
  have hM2:cap2<=9223372036854775807:=Nat.le_trans hmx2 (by decide)
  refine⟨⟨by omega,by omega,by omega,by omega⟩,?_⟩
  refine N9 Tryz.underlying37 A03 (da:=⟨g2,i*2,none⟩) (sa:=⟨vb,0,none⟩) (dn:=n+1-i) (dc:=cap2-i) (sn:=1) (sc:=1) (xs:=c) (by rw [hcl,show Nat.min 1 (n+1-i)=1 from Nat.min_eq_left (by omega)]) (hc.cells (kv+2) hkv2) (hc.may 0 rfl _ _ (by rw [hcl2,hcl];omega) hc1) ?_ rfl ?_
  ·show Value.slice (if (cap2:Int)=(i:Int) then some (⟨g2,0,none⟩:Addr) else (some (⟨g2,0,none⟩:Addr)).map (·.add ((i:Int).toNat*2))) (((i+(n+1-i):Nat):Int)-(i:Int)).toNat ((cap2:Int)-(i:Int)).toNat=_
   rw [Y9 g2 cap2 2 (i:Int) i rfl (by omega)]
   congr 1<;>omega
  intro w3 h3
  have hC3:=hc.set 0 rfl h3
  have hc:=hC3.1
  have hl3:(C0 cur2 (i*2) c).length=cap2*2:=by rw [putAt_len,hcl2]
  refine vD (.Q [0,1,2,3,4,5,6,7] (.n 8 .fin .stop)) (fun _=>True) trivial ?_
  have hc:=hc.drew
  refine⟨⟨by rw [hwi];omega,by rw [hwi];omega,by omega,by omega⟩,?_⟩
  refine⟨⟨by omega,by omega,by omega,by omega⟩,?_⟩
  refine⟨N9 Tryz.underlying37 A03 (da:=⟨g2,(i+1)*2,none⟩) (sa:=⟨g,i*2,none⟩) (dn:=n-i) (dc:=cap2-(i+1)) (sn:=n-i) (sc:=cap-i) (xs:=(css.drop i).flatten) (by rw [show Nat.min (n-i) (n-i)=n-i from Nat.min_self _,hdl]) (hc.cellsAt 1 rfl _ _ hdrop) (hc.may 0 rfl _ _ (by rw [hdl,hl3,<-Nat.add_mul];exact Nat.mul_le_mul_right _ (by omega)) (hF.drop _).ones) ?_ ?_ ?_,trivial⟩
  ·show Value.slice (if (cap2:Int)=(IntKind.i64.wrap ((i:Int)+((1:Nat):Int))) then some (⟨g2,0,none⟩:Addr) else (some (⟨g2,0,none⟩:Addr)).map (·.add ((IntKind.i64.wrap ((i:Int)+((1:Nat):Int))).toNat*2))) (((i+(n+1-i):Nat):Int)-(IntKind.i64.wrap ((i:Int)+((1:Nat):Int)))).toNat ((cap2:Int)-(IntKind.i64.wrap ((i:Int)+((1:Nat):Int)))).toNat=_
   rw [Y9 g2 cap2 2 (IntKind.i64.wrap ((i:Int)+((1:Nat):Int))) (i+1) (by rw [hwi];rfl) (by omega),hwi]
   congr 1<;>omega
  ·show Value.slice (if (cap:Int)=(i:Int) then some (⟨g,0,none⟩:Addr) else (some (⟨g,0,none⟩:Addr)).map (·.add ((i:Int).toNat*2))) ((n:Int)-(i:Int)).toNat ((cap:Int)-(i:Int)).toNat=_
   rw [Y9 g cap 2 (i:Int) i rfl (by omega)]
   congr 1<;>omega
  intro w4 h4
  refine⟨trivial,?_⟩
  have hC4:=hc.set 0 rfl h4
  have hc:=hC4.1
  have hput:=E5 c cur2 (i*2) (by rw [hcl2,hcl];omega)
  have hput2:=E5 (css.drop i).flatten (C0 cur2 (i*2) c) ((i+1)*2) (by rw [hdl,hl3,<-Nat.add_mul];exact Nat.mul_le_mul_right _ (by omega))
  have hfin:(C0 (C0 cur2 (i*2) c) ((i+1)*2) (css.drop i).flatten).take ((n+1)*2)=(css.take i).flatten++c++(css.drop i).flatten:=by
   have e1:(C0 cur2 (i*2) c).take ((i+1)*2)=(css.take i).flatten++c:=by
    rw [hput,htk2,htake,List.take_left' (by rw [List.length_append,htl,hcl];omega)]
   rw [hput2,e1,List.take_left' (by rw [List.length_append,List.length_append,htl,hcl,hdl];omega)]
  obtain⟨hc,ho⟩:=Ctx.closed hc 2 (n+1) cap2 (by omega) hmx2 (by rw [putAt_len,hl3])
  rw [hfin] at ho
  refine⟨some ⟨g2,0,none⟩,cap2,?_,hc.drop,hf2.trans (hC3.2.trans hC4.2),ho.drop⟩
  show Ending.returned (.slice (some ⟨g2,0,none⟩) (i+(n+1-i)) cap2)=_
  rw [hlen2]
 ·refine df (by rw [hw1];omega) ?_
  have hcapi:(((cap:Int)-0).toNat:Int)=cap:=by omega
  have hlen1:((IntKind.i64.wrap ((n:Int)+((1:Nat):Int))-0).toNat:Int)=n+1:=by rw [hw1];omega
  refine⟨⟨by omega,by rw [hw1];omega,by rw [hw1];omega,by omega⟩,?_⟩
  have hfe:(if (cap:Int)=0 then some (⟨g,0,none⟩:Addr) else (some (⟨g,0,none⟩:Addr)).map (·.add ((0:Int).toNat*2)))=some ⟨g,0,none⟩:=W2 _ _ _
  refine⟨⟨by rw [hwi];omega,by rw [hwi,hw1];omega,by rw [hw1];omega,by omega⟩,?_⟩
  have hB1:=hc.blk 0 rfl
  have hBv:=hc.blk (kv+1) hkv1
  refine⟨_,_,B0H w vb g _ _ 1 1 (n-i) (cap-(i+1)) ⟨g,(i+1)*2,none⟩ c cur hBv hB1 rfl hne (by rw [hcur];omega) (ey:=?ey),?_⟩
  case ey=>
   show Value.slice (if (((cap:Int)-0).toNat:Int)=(IntKind.i64.wrap ((i:Int)+((1:Nat):Int))) then (if (cap:Int)=0 then some (⟨g,0,none⟩:Addr) else (some (⟨g,0,none⟩:Addr)).map (·.add ((0:Int).toNat*2))) else (if (cap:Int)=0 then some (⟨g,0,none⟩:Addr) else (some (⟨g,0,none⟩:Addr)).map (·.add ((0:Int).toNat*2))).map (·.add ((IntKind.i64.wrap ((i:Int)+((1:Nat):Int))).toNat*2))) (((IntKind.i64.wrap ((n:Int)+((1:Nat):Int))-0).toNat:Int)-(IntKind.i64.wrap ((i:Int)+((1:Nat):Int)))).toNat ((((cap:Int)-0).toNat:Int)-(IntKind.i64.wrap ((i:Int)+((1:Nat):Int)))).toNat=_
   rw [hwi,hcapi,hlen1,hfe,if_neg (by omega),Option.map_some,Addr.add_lit,Nat.zero_add,show ((i:Int)+1).toNat=i+1 by omega]
   congr 1<;>omega
  refine vD (.Q [0,1,2,3,4,5,6,7] (.n 8 .fin .stop)) (fun _=>True) trivial ?_
  have hc:=hc.drew
  refine⟨⟨by rw [hwi];omega,by rw [hwi,hw1];omega,by rw [hw1];omega,by omega⟩,?_⟩
  refine⟨⟨by omega,by rw [hw1];omega,by rw [hw1];omega,by omega⟩,?_⟩
  refine⟨?_,trivial⟩
  have hmn:Nat.min (n+1-i) (n-i)=n-i:=Nat.min_eq_right (by omega)
  refine N9 Tryz.underlying37 A03 (da:=⟨g,(i+1)*2,none⟩) (sa:=⟨g,i*2,none⟩) (dn:=n-i) (dc:=cap-(i+1)) (sn:=n+1-i) (sc:=cap-i) (xs:=(css.drop i).flatten) (by rw [hmn,hdl]) (hc.cellsAt 0 rfl _ _ hdrop) (hc.may 0 rfl _ _ (by rw [hdl,hcur,<-Nat.add_mul];exact Nat.mul_le_mul_right _ (by omega)) (hF.drop _).ones) ?_ ?_ ?_
  ·show Value.slice (if (((cap:Int)-0).toNat:Int)=(IntKind.i64.wrap ((i:Int)+((1:Nat):Int))) then (if (cap:Int)=0 then some (⟨g,0,none⟩:Addr) else (some (⟨g,0,none⟩:Addr)).map (·.add ((0:Int).toNat*2))) else (if (cap:Int)=0 then some (⟨g,0,none⟩:Addr) else (some (⟨g,0,none⟩:Addr)).map (·.add ((0:Int).toNat*2))).map (·.add ((IntKind.i64.wrap ((i:Int)+((1:Nat):Int))).toNat*2))) (((IntKind.i64.wrap ((n:Int)+((1:Nat):Int))-0).toNat:Int)-(IntKind.i64.wrap ((i:Int)+((1:Nat):Int)))).toNat ((((cap:Int)-0).toNat:Int)-(IntKind.i64.wrap ((i:Int)+((1:Nat):Int)))).toNat=_
   rw [hwi,hcapi,hlen1,hfe,if_neg (by omega),Option.map_some,Addr.add_lit,Nat.zero_add,show ((i:Int)+1).toNat=i+1 by omega]
   congr 1<;>omega
  ·show Value.slice (if (((cap:Int)-0).toNat:Int)=(i:Int) then (if (cap:Int)=0 then some (⟨g,0,none⟩:Addr) else (some (⟨g,0,none⟩:Addr)).map (·.add ((0:Int).toNat*2))) else (if (cap:Int)=0 then some (⟨g,0,none⟩:Addr) else (some (⟨g,0,none⟩:Addr)).map (·.add ((0:Int).toNat*2))).map (·.add ((i:Int).toNat*2))) (((IntKind.i64.wrap ((n:Int)+((1:Nat):Int))-0).toNat:Int)-(i:Int)).toNat ((((cap:Int)-0).toNat:Int)-(i:Int)).toNat=_
   rw [hcapi,hlen1,hfe,if_neg (by omega),Option.map_some,Addr.add_lit,Nat.zero_add,Int.toNat_natCast]
   congr 1<;>omega
  intro w2 h2
  refine⟨trivial,?_⟩
  have hC:=hc.set 0 rfl h2
  have hc:=hC.1
  refine⟨⟨by omega,by rw [hw1];omega,by rw [hw1];omega,by omega⟩,?_⟩
  have hkv2:(F4 ((g,99,cur)::l) 0 (C0 cur ((i+1)*2) (css.drop i).flatten))[kv+1]?=some (vb,99,c):=hkv1
  have hl2:(C0 cur ((i+1)*2) (css.drop i).flatten).length=cap*2:=by rw [putAt_len,hcur]
  have hput:C0 cur ((i+1)*2) (css.drop i).flatten=cur.take ((i+1)*2)++(css.drop i).flatten++cur.drop ((i+1)*2+(css.drop i).flatten.length):=E5 _ _ _ (by rw [hdl,hcur,<-Nat.add_mul];exact Nat.mul_le_mul_right _ (by omega))
  refine N9 Tryz.underlying37 A03 (da:=⟨g,i*2,none⟩) (sa:=⟨vb,0,none⟩) (dn:=n+1-i) (dc:=cap-i) (sn:=1) (sc:=1) (xs:=c) (by rw [hcl,show Nat.min 1 (n+1-i)=1 from Nat.min_eq_left (by omega)]) (hc.cells (kv+1) hkv2) (hc.may 0 rfl _ _ (by rw [hl2,hcl];omega) hc1) ?_ rfl ?_
  ·show Value.slice (if (((cap:Int)-0).toNat:Int)=(i:Int) then (if (cap:Int)=0 then some (⟨g,0,none⟩:Addr) else (some (⟨g,0,none⟩:Addr)).map (·.add ((0:Int).toNat*2))) else (if (cap:Int)=0 then some (⟨g,0,none⟩:Addr) else (some (⟨g,0,none⟩:Addr)).map (·.add ((0:Int).toNat*2))).map (·.add ((i:Int).toNat*2))) (((IntKind.i64.wrap ((n:Int)+((1:Nat):Int))-0).toNat:Int)-(i:Int)).toNat ((((cap:Int)-0).toNat:Int)-(i:Int)).toNat=_
   rw [hcapi,hlen1,hfe,if_neg (by omega),Option.map_some,Addr.add_lit,Nat.zero_add,Int.toNat_natCast]
   congr 1<;>omega
  intro w3 h3
  have hC3:=hc.set 0 rfl h3
  have hc:=hC3.1
  have hput2:=E5 c (C0 cur ((i+1)*2) (css.drop i).flatten) (i*2) (by rw [hl2,hcl];omega)
  have hfin:(C0 (C0 cur ((i+1)*2) (css.drop i).flatten) (i*2) c).take ((n+1)*2)=(css.take i).flatten++c++(css.drop i).flatten:=by
   have e1:(C0 cur ((i+1)*2) (css.drop i).flatten).take (i*2)=(css.take i).flatten:=by
    rw [hput,List.append_assoc,List.take_append_of_le_length (by rw [List.length_take,hcur];omega),List.take_take,Nat.min_eq_left (by omega),htake]
   have e2:(C0 cur ((i+1)*2) (css.drop i).flatten).drop (i*2+c.length)=(css.drop i).flatten++cur.drop ((i+1)*2+(css.drop i).flatten.length):=by
    rw [hput,List.append_assoc,List.drop_left' (by rw [List.length_take,hcur,hcl];omega)]
   rw [hput2,e1,e2,<-List.append_assoc,List.take_left' (by rw [List.length_append,List.length_append,htl,hcl,hdl];omega)]
  obtain⟨hc,ho⟩:=Ctx.closed hc 2 (n+1) cap hroom f2 (by rw [putAt_len,hl2])
  rw [hfin] at ho
  refine⟨some ⟨g,0,none⟩,cap,?_,hc,((Fut.refl S w).trans ⟨fun _ h=>h,fun _ _=>rfl⟩).trans (hC.2.trans hC3.2),ho⟩
  show Ending.returned (.slice (if (cap:Int)=0 then some (⟨g,0,none⟩:Addr) else (some (⟨g,0,none⟩:Addr)).map (·.add ((0:Int).toNat*2))) (IntKind.i64.wrap ((n:Int)+((1:Nat):Int))-0).toNat ((cap:Int)-0).toNat)=_
  have e1:(IntKind.i64.wrap ((n:Int)+((1:Nat):Int))-0).toNat=n+1:=by rw [hw1];omega
  have e2:((cap:Int)-0).toNat=cap:=by omega
  rw [hfe,e1,e2]
def A7P (p:Mem->Bool):List Mem->Option Nat
 | []=>none
 | m::r=>if p m then some 0 else (A7P p r).map (·+1)
theorem A5A (p:Mem->Bool):∀ l:List Mem,(∀ j (h:j<l.length),p l[j]=false)->A7P p l=none
 | [],_=>rfl
 | m::r,h=>by
  have h0:p m=false:=h 0 (by simp)
  rw [A7P,h0,A5A p r (fun j hj=>h (j+1) (by simpa using hj))]
  rfl
theorem A5B (p:Mem->Bool):∀ (l:List Mem) (i:Nat) (hi:i<l.length),p l[i]=true->(∀ j (h:j<l.length),j<i->p l[j]=false)->A7P p l=some i
 | m::r,0,hi,hp,_=>by
  have h0:p m=true:=hp
  rw [A7P,h0]
  rfl
 | m::r,i+1,hi,hp,h=>by
  have h0:p m=false:=h 0 (by simp) (by omega)
  rw [A7P,h0,A5B p r i (by simpa using hi) (by simpa using hp) (fun j hj hlt=>h (j+1) (by simpa using hj) (by omega))]
  rfl
theorem B0I (p:Mem->Bool):∀ (l:List Mem) (i:Nat),A7P p l=some i->i<l.length/\(l.take i).filter (fun m=>!p m)=l.take i/\(∃ h:i<l.length,p l[i]=true)
 | [],i,h=>by cases h
 | m::r,i,h=>by
  unfold A7P at h
  split at h
  ·cases h
   exact⟨by simp,rfl,by simp,by assumption⟩
  ·rename_i hp
   cases e:A7P p r with
   | none=>rw [e] at h;cases h
   | some k=>
    rw [e] at h
    cases h
    obtain⟨h1,h2,h3,h4⟩:=B0I p r k e
    refine⟨by simpa using h1,?_,by simpa using h1,by simpa using h4⟩
    have hp':p m=false:=by simpa using hp
    show List.filter (fun m=>!p m) (m::r.take k)=m::r.take k
    rw [List.filter_cons,hp',h2]
    rfl
theorem A26 {p:Mem->Bool}:∀ l:List Mem,A7P p l=none->l.filter (fun m=>!p m)=l
 | [],_=>rfl
 | m::r,h=>by
  unfold A7P at h
  split at h
  ·cases h
  ·rename_i hp
   have hp':p m=false:=by simpa using hp
   rw [List.filter_cons,hp',A26 r (by cases e:A7P p r with | none=>rfl | some k=>rw [e] at h;cases h)]
   rfl
theorem B9q (p:Mem->Bool) (a:Addr) (l:List Mem) (A:Option Addr) (cap:Nat) (S:Nat->Prop) (w:World) (hR:Row S w A l.length cap (l.map F7).flatten)
  (hp:∀ m w',Below w.heap.size w w'->Calls Tryz.prog 210 #[.agg (F7 m).toArray,.pointer (some a)] w' (C8 (.bool (p m)) w')):
  Calls Tryz.prog 209 #[.slice A l.length cap,.func (.func 210) #[] #[.pointer (some a)]] w (C8 (.int .i64 (B5A (A7P p l))) w):=by
 refine vE Tryz.func209 ?_
 have hM:=D4 hR
 refine⟨Nat,fun i=>[(0,.slice A l.length cap),(1,.func (.func 210) #[] #[.pointer (some a)]),(7,.int .i64 l.length),(8,.int .i64 i)],
  fun i w'=>i<=l.length/\(∀ j (hj:j<l.length),j<i->p l[j]=false)/\Below w.heap.size w w',fun i _=>l.length-i,0,
  ⟨rfl,rfl,rfl,rfl,trivial⟩,⟨Nat.zero_le _,fun j hj h=>absurd h (Nat.not_lt_zero _),Below.refl _ _⟩,?_⟩
 rintro i w' u ⟨hi,he,hb⟩
 by_cases hlt:i<l.length
 ·refine dt (by omega) ?_
  obtain⟨ad,rfl,hcell⟩:=RowM.elem (hR.below hb) i hlt
  refine⟨⟨by omega,by omega⟩,?_⟩
  refine⟨F7 l[i],rfl,hcell,?_⟩
  refine B4 (hp l[i] w' hb) ?_
  intro w2 h2
  have hb2:=hb.trans (h2.mono hb.size)
  rcases Bool.eq_false_or_eq_true (p l[i]) with hv | hv
  ·refine B0 hv ?_
   refine⟨?_,hb2⟩
   rw [A5B p l i hlt hv he]
   rfl
  ·refine C3X hv ?_
   refine⟨i+1,⟨rfl,rfl,rfl,congrArg _ (C3 (by omega)),trivial⟩,⟨hlt,fun j hj h=>?_,hb2⟩,by show l.length-(i+1)<l.length-i;omega⟩
   rcases Nat.lt_succ_iff_lt_or_eq.1 h with h | h
   ·exact he j hj h
   ·subst h;exact hv
 ·refine df (by omega) ?_
  refine⟨?_,hb⟩
  rw [A5A p l (fun j hj=>he j hj (by omega))]
  rfl
theorem A13 (p:Mem->Bool) (a b:Addr) (l:List Mem) (A:Option Addr) (cap:Nat) (S:Nat->Prop) (w:World) (hR:Row S w A l.length cap (l.map F7).flatten)
  (hp:∀ m w',Below w.heap.size w w'->Calls Tryz.prog 238 #[.agg (F7 m).toArray,.pointer (some a),.pointer (some b)] w' (C8 (.bool (p m)) w')):
  Calls Tryz.prog 209 #[.slice A l.length cap,.func (.func 238) #[] #[.pointer (some a),.pointer (some b)]] w (C8 (.int .i64 (B5A (A7P p l))) w):=by
 refine vE Tryz.func209 ?_
 have hM:=D4 hR
 refine⟨Nat,fun i=>[(0,.slice A l.length cap),(1,.func (.func 238) #[] #[.pointer (some a),.pointer (some b)]),(7,.int .i64 l.length),(8,.int .i64 i)],
  fun i w'=>i<=l.length/\(∀ j (hj:j<l.length),j<i->p l[j]=false)/\Below w.heap.size w w',fun i _=>l.length-i,0,
  ⟨rfl,rfl,rfl,rfl,trivial⟩,⟨Nat.zero_le _,fun j hj h=>absurd h (Nat.not_lt_zero _),Below.refl _ _⟩,?_⟩
 rintro i w' u ⟨hi,he,hb⟩
 by_cases hlt:i<l.length
 ·refine dt (by omega) ?_
  obtain⟨ad,rfl,hcell⟩:=RowM.elem (hR.below hb) i hlt
  refine⟨⟨by omega,by omega⟩,?_⟩
  refine⟨F7 l[i],rfl,hcell,?_⟩
  refine B4 (hp l[i] w' hb) ?_
  intro w2 h2
  have hb2:=hb.trans (h2.mono hb.size)
  rcases Bool.eq_false_or_eq_true (p l[i]) with hv | hv
  ·refine B0 hv ?_
   refine⟨?_,hb2⟩
   rw [A5B p l i hlt hv he]
   rfl
  ·refine C3X hv ?_
   refine⟨i+1,⟨rfl,rfl,rfl,congrArg _ (C3 (by omega)),trivial⟩,⟨hlt,fun j hj h=>?_,hb2⟩,by show l.length-(i+1)<l.length-i;omega⟩
   rcases Nat.lt_succ_iff_lt_or_eq.1 h with h | h
   ·exact he j hj h
   ·subst h;exact hv
 ·refine df (by omega) ?_
  refine⟨?_,hb⟩
  rw [A5A p l (fun j hj=>he j hj (by omega))]
  rfl
theorem C0n (m:Mem) (a:Addr) (n:Int) (w:World) (ha:w.cell? a=some (.int .i64 n)):Calls Tryz.prog 210 #[.agg (F7 m).toArray,.pointer (some a)] w (C8 (.bool (m.req==n)) w):=by
 obtain⟨ab,ao,asub⟩:=a
 refine vE Tryz.func210 ?_
 intro g w1 h1
 have hc:=((Ctx.start w no (fun _ h=>h.elim)).loc h1).1
 refine hc.c 0 rfl rfl ?_
 refine⟨_,cell_later hc.below ha,?_⟩
 exact⟨rfl,hc.below⟩
theorem B0J (m:Mem) (a b:Addr) (low home:Int) (h0:0<=home) (h9:home<100) (w:World) (ha:w.cell? a=some (.int .i64 low)) (hb:w.cell? b=some (.int .i64 home)):
  Calls Tryz.prog 238 #[.agg (F7 m).toArray,.pointer (some a),.pointer (some b)] w (C8 (.bool (decide (m.req<low)&&B2 m.req==home+1)) w):=by
 obtain⟨ab,ao,asub⟩:=a
 obtain⟨bb,bo,bsub⟩:=b
 refine vE Tryz.func238 ?_
 intro g w1 h1
 have hc:=((Ctx.start w no (fun _ h=>h.elim)).loc h1).1
 have ha:=cell_later hc.below ha
 have hb:=cell_later hc.below hb
 have hw:IntKind.i64.wrap (home+1)=home+1:=E0 _ _ (by omega) (by omega)
 refine vD (.Q [0,1,2,3,4,5,6,8,9] (.n 7 (.Q [10,11,12] .fin) .stop)) (Keeps (fun b=>b<w1.heap.size) w1) (Keeps.start _ _) ?_
 refine⟨_,fun x hx=>hx.look (hc.cell 0 rfl _ rfl),?_⟩
 refine⟨_,fun x hx=>hx.look ha,?_⟩
 by_cases hl:m.req<low
 ·refine dt hl ?_
  refine⟨_,fun x hx=>hx.look (hc.cell 0 rfl _ rfl),?_⟩
  refine⟨_,fun x hx=>hx.look hb,?_⟩
  refine⟨?_,trivial⟩
  have hc:=hc.drew
  refine hc.q (K0 m.req _) fun w2 h2 hc=>?_
  refine⟨(Keeps.start _ _).below (fun _ h=>h) h2,?_⟩
  refine⟨?_,hc.below⟩
  rw [decide_eq_true hl,hw]
  rfl
 ·refine df hl ?_
  have hc:=hc.drew
  refine⟨?_,trivial⟩
  refine⟨?_,hc.below⟩
  rw [decide_eq_false hl]
  rfl
theorem Own.seen {S:Nat->Prop} {w:World} {l:List LB} {e sz:Nat} {A:Option Addr} {n cap:Nat} {xs:List Value} {n0:Nat} (h:Own S n0 w l e sz A n cap xs):Row (fun b=>∃ a,A=some a/\a.block=b) w A n cap xs:=by
 obtain⟨f1,f2⟩:=h.fit
 refine⟨f1,f2,fun hx=>?_⟩
 obtain⟨e0,h3⟩:=h.row
 rcases h3 with ⟨h3,rfl⟩ | ⟨g,cp,cur,e1,_,_,_,_,_,_⟩
 ·rw [Nat.zero_mul] at e0
  exact absurd (List.eq_nil_of_length_eq_zero e0) hx
 ·cases e1
  exact⟨_,rfl,⟨_,rfl,rfl⟩,h.row.cells rfl⟩
theorem A3i:∀ n:Nat,D7 (Builtin.zeroCells (Value.agg #[.int .i64 0,.int .i64 0,.int .i64 0]).cells n).toList=true:=fun n=>A1g fun v hv=>by
 have hv:v∈(Builtin.zeroCells (Value.agg #[.int .i64 0,.int .i64 0,.int .i64 0]).cells n):=by simpa using hv
 unfold Builtin.zeroCells at hv
 rw [Array.mem_map] at hv
 obtain⟨i,_,rfl⟩:=hv
 have hlt:i % 3<3:=Nat.mod_lt _ (by decide)
 show (#[Value.int .i64 0,.int .i64 0,.int .i64 0][i % 3]!).oneCell'=true
 generalize i % 3=k at hlt
 match k,hlt with
 | 0,_=>rfl
 | 1,_=>rfl
 | 2,_=>rfl
theorem B0K (l:List Mem) (i:Nat):((l.map F7).flatten).take (i*3)=((l.take i).map F7).flatten:=by
 rw [<-(F9 l).flat_take,List.map_take]
theorem B0L (l:List Mem) (i:Nat):((l.map F7).flatten).drop (i*3)=((l.drop i).map F7).flatten:=by
 rw [<-(F9 l).flat_drop,List.map_drop]
theorem A8G (xs cs:List Value) (o d:Nat) (h:o+xs.length<=cs.length) (hd:o+xs.length<=d):(C0 cs o xs).drop d=cs.drop d:=by
 rw [E5 xs cs o h,List.drop_append,List.drop_of_length_le (by rw [List.length_append,List.length_take];omega),List.nil_append,List.drop_drop]
 congr 1
 rw [List.length_append,List.length_take]
 omega
theorem A8H (xs cs:List Value) (o:Nat) (h:o+xs.length<=cs.length):(C0 cs o xs).take (o+xs.length)=cs.take o++xs:=by
 rw [E5 xs cs o h,List.take_left' (by rw [List.length_append,List.length_take];omega)]
theorem A8I (low h:Int) (l:List Mem) (j:Nat) (hj:j<l.length):N7 low h (l.take (j+1))=N7 low h (l.take j)++(if (decide (l[j].req<low)&&B2 l[j].req==h)=true then [] else [l[j]]):=by
 rw [List.take_add_one,List.getElem?_eq_getElem hj]
 unfold N7
 show List.filter _ (l.take j++[l[j]])=_
 rw [List.filter_append,List.filter_cons]
 cases (decide (l[j].req<low)&&B2 l[j].req==h)<;>rfl
theorem V3 {S0 S:Nat->Prop} {w0 w:World} {l:List LB} (hc:Ctx S0 w0 S w l) (ms:List Mem) (hn:ms.length<=1000000) {A:Option Addr} {cap:Nat} (ho:Own S w0.heap.size w l 101 3 A ms.length cap (ms.map F7).flatten)
  (low home:Int) (h0:0<=home) (h9:home<100) (ka kb ga gb Ta Tb:Nat) (hka:l[ka]?=some (ga,Ta,[.int .i64 low])) (hkb:l[kb]?=some (gb,Tb,[.int .i64 home])):
  Calls Tryz.prog 237 #[.slice A ms.length cap,.func (.func 238) #[] #[.pointer (some ⟨ga,0,none⟩),.pointer (some ⟨gb,0,none⟩)]] w (fun en w'=>∃ A',en=.returned (.slice A' (N7 low (home+1) ms).length cap)/\Ctx S0 w0 S w' l/\Fut S w S w'/\Own S w0.heap.size w' l 101 3 A' (N7 low (home+1) ms).length cap ((N7 low (home+1) ms).map F7).flatten):=by
 refine vE Tryz.func237 ?_
 refine B4 (A13 (fun m=>decide (m.req<low)&&B2 m.req==home+1) ⟨ga,0,none⟩ ⟨gb,0,none⟩ ms A cap _ w (Own.seen ho) (fun m w2 h2=>B0J m _ _ low home h0 h9 w2 (cell_later h2 (hc.cell ka hka 0 rfl)) (cell_later h2 (hc.cell kb hkb 0 rfl)))) ?_
 intro w1 h1
 have hC1:=hc.quiet h1
 have hc:=hC1.1
 have hf:=hC1.2
 have ho:=ho.quiet h1
 cases hi:A7P (fun m=>decide (m.req<low)&&B2 m.req==home+1) ms with
 | none=>
  have hk:N7 low (home+1) ms=ms:=A26 ms hi
  rw [hk]
  exact⟨A,rfl,hc,hf,ho⟩
 | some i=>
 obtain⟨hlt,htk,hpi⟩:=B0I _ ms i hi
 cases hA:A with
 | none=>
  obtain⟨hz,_⟩:=ho.none' hA
  omega
 | some a=>
 obtain⟨g,cur,e1,hc,hcur,hct,hnc,hcm⟩:=ho.opened hc hA
 rw [hA] at e1
 cases e1
 have hM:cap<=9223372036854775807:=Nat.le_trans hcm (by decide)
 obtain⟨_,hpi⟩:=hpi
 have hk0:N7 low (home+1) (ms.take (i+1))=ms.take i:=by
  have hg:(decide (ms[i].req<low)&&B2 ms[i].req==home+1)=true:=hpi
  rw [List.take_add_one,List.getElem?_eq_getElem hlt]
  show List.filter _ (ms.take i++[ms[i]])=_
  rw [List.filter_append,htk,List.filter_cons,hg]
  simp
 refine⟨Nat × Nat × List Value,fun x=>[(0,.slice (some ⟨g,0,none⟩) ms.length cap),(1,.func (.func 238) #[] #[.pointer (some ⟨ga,0,none⟩),.pointer (some ⟨gb,0,none⟩)]),(5,.int .i64 x.2.1),(6,.int .i64 x.1)],
  fun x w'=>x.2.1<x.1/\x.1<=ms.length/\(N7 low (home+1) (ms.take x.1)).length=x.2.1/\x.2.2.length=cap*3/\x.2.2.take (x.2.1*3)=((N7 low (home+1) (ms.take x.1)).map F7).flatten/\(x.2.2.take (ms.length*3)).drop (x.1*3)=((ms.drop x.1).map F7).flatten/\Ctx S0 w0 S w' ((g,101,x.2.2)::l)/\Fut S w S w',fun x _=>ms.length-x.1,(i+1,i,cur),
  ⟨rfl,rfl,rfl,congrArg _ (C3 (by omega)),trivial⟩,⟨Nat.lt_succ_self _,hlt,?_,hcur,?_,?_,hc,hf⟩,?_⟩
 ·show (N7 low (home+1) (ms.take (i+1))).length=i
  rw [hk0,List.length_take];omega
 ·rw [hk0,<-B0K,<-hct,List.take_take]
  show cur.take (i*3)=_
  congr 1
  omega
 ·show (cur.take (ms.length*3)).drop ((i+1)*3)=_
  rw [hct,B0L]
 clear hct hcur hc hf
 rintro⟨j,k,cur⟩ w2 u ⟨hkj,hjn,hkl,hcl,hct,hcd,hc,hf⟩
 simp only at hkj hjn hkl hcl hct hcd hc
 rcases Nat.lt_or_ge j ms.length with hj | hj
 ·refine dt (by omega) ?_
  have hld:(cur.drop (j*3)).take 3=F7 ms[j]:=by
   have e0:((cur.take (ms.length*3)).drop (j*3)).take 3=(((ms.drop j).map F7).flatten).take 3:=by rw [hcd]
   rw [List.drop_eq_getElem_cons hj] at e0
   rw [List.drop_take,List.take_take,show min 3 (ms.length*3-j*3)=3 by omega] at e0
   rw [e0]
   rfl
  have hadj:((⟨g,0,none⟩:Addr).add ((j:Int).toNat*3))=⟨g,j*3,none⟩:=by rw [Addr.add_lit,Nat.zero_add,Int.toNat_natCast]
  have hadk:((⟨g,0,none⟩:Addr).add ((k:Int).toNat*3))=⟨g,k*3,none⟩:=by rw [Addr.add_lit,Nat.zero_add,Int.toNat_natCast]
  refine⟨⟨(by first | omega | (simp only;omega)),(by first | omega | (simp only;omega))⟩,?_⟩
  refine⟨F7 ms[j],rfl,by rw [hadj];exact hc.cellsAt 0 rfl _ _ hld,?_⟩
  generalize hm:ms[j]=m at*
  intro g7 w7 h7
  have hcf:=hc.loc h7
  have hf:=hf.trans hcf.2
  have hc:=hcf.1
  refine⟨hc.may 0 rfl 0 _ (Nat.le_refl 3) rfl,?_⟩
  intro w8 h8
  have hcf:=hc.set 0 rfl h8
  have hf:=hf.trans hcf.2
  have hc:=hcf.1
  refine⟨F7 m,rfl,hc.cells 0 rfl,?_⟩
  refine B4 (B0J m ⟨ga,0,none⟩ ⟨gb,0,none⟩ low home h0 h9 w8 (hc.cell (ka+2) (show l[ka]?=_ from hka) 0 rfl) (hc.cell (kb+2) (show l[kb]?=_ from hkb) 0 rfl)) ?_
  intro w9 h9
  have hcf:=hc.quiet h9
  have hf:=hf.trans hcf.2
  have hc:=hcf.1
  have hks:=A8I low (home+1) ms j hj
  rw [hm] at hks
  have hcd1:(cur.take (ms.length*3)).drop ((j+1)*3)=((ms.drop (j+1)).map F7).flatten:=by
   rw [show (j+1)*3=j*3+3 by omega,<-List.drop_drop,hcd,List.drop_eq_getElem_cons hj]
   rfl
  rcases Bool.eq_false_or_eq_true (decide (m.req<low)&&B2 m.req==home+1) with hq | hq
  ·refine C3X (by show (!(decide (m.req<low)&&B2 m.req==home+1))=false;rw [hq];rfl) ?_
   rw [hq,if_pos rfl,List.append_nil] at hks
   refine⟨(j+1,k,cur),⟨rfl,rfl,rfl,congrArg _ (C3 (by first | omega | (simp only;omega))),trivial⟩,⟨Nat.lt_succ_of_lt hkj,hj,by rw [hks];exact hkl,hcl,by rw [hks];exact hct,hcd1,hc.drop,hf⟩,by show ms.length-(j+1)<ms.length-j;omega⟩
  ·refine B0 (by show (!(decide (m.req<low)&&B2 m.req==home+1))=true;rw [hq];rfl) ?_
   rw [hq,if_neg (by decide)] at hks
   refine⟨F7 m,rfl,hc.cells 0 rfl,?_⟩
   refine⟨⟨(by first | omega | (simp only;omega)),(by first | omega | (simp only;omega))⟩,?_⟩
   generalize hae:((⟨g,0,none⟩:Addr).add ((k:Int).toNat*3))=ae
   rw [hadk] at hae
   subst hae
   refine⟨hc.may 1 rfl (k*3) (F7 m) (by show k*3+3<=cur.length;omega) rfl,?_⟩
   intro w10 h10
   have hcf:=hc.set 1 rfl h10
   have hf:=hf.trans hcf.2
   have hc:=hcf.1
   have hfit:k*3+(F7 m).length<=cur.length:=by show k*3+3<=cur.length;omega
   refine⟨(j+1,k+1,C0 cur (k*3) (F7 m)),⟨rfl,rfl,congrArg _ (C3 (by first | omega | (simp only;omega))),congrArg _ (C3 (by first | omega | (simp only;omega))),trivial⟩,⟨Nat.succ_lt_succ hkj,hj,by rw [hks,List.length_append,hkl];rfl,by rw [putAt_len];exact hcl,?_,?_,hc.drop,hf⟩,by show ms.length-(j+1)<ms.length-j;omega⟩
   ·show (C0 cur (k*3) (F7 m)).take ((k+1)*3)=_
    rw [show (k+1)*3=k*3+(F7 m).length by show _=k*3+3;omega,A8H _ _ _ hfit,hct,hks,List.map_append,List.flatten_append]
    simp
   ·show ((C0 cur (k*3) (F7 m)).take (ms.length*3)).drop ((j+1)*3)=_
    rw [List.drop_take,A8G _ _ _ _ hfit (by show k*3+3<=_;omega),<-List.drop_take,hcd1]
 ·refine df (by omega) ?_
  have hjn:j=ms.length:=by omega
  subst hjn
  rw [List.take_length] at hkl hct
  refine⟨⟨(by first | omega | (simp only;omega)),(by first | omega | (simp only;omega)),(by first | omega | (simp only;omega)),(by first | omega | (simp only;omega))⟩,?_⟩
  have hzl:(Builtin.zeroCells (Value.agg #[.int .i64 0,.int .i64 0,.int .i64 0]).cells (ms.length-k)).toList.length=(ms.length-k)*3:=by rw [Array.length_toList,size_zeroCells];rfl
  refine A1n Tryz.underlying38 (z:=.agg #[.int .i64 0,.int .i64 0,.int .i64 0]) (fun w=>by kernel_rfl) (a:=⟨g,k*3,none⟩) (n:=ms.length-k) (c:=cap-k) (by omega) ?_ rfl (hc.may 0 rfl (k*3) _ (by rw [hzl];show _<=cur.length;omega) (A3i _)) ?_
  ·show Value.slice (if (cap:Int)=(k:Int) then some (⟨g,0,none⟩:Addr) else (some (⟨g,0,none⟩:Addr)).map (·.add ((k:Int).toNat*3))) ((ms.length:Int)-(k:Int)).toNat ((cap:Int)-(k:Int)).toNat=_
   rw [Y9 g cap 3 (k:Int) k rfl (by omega)]
   congr 1<;>omega
  intro w3 h3
  have hC:=hc.set 0 rfl h3
  have hc:=hC.1
  refine⟨⟨(by first | omega | (simp only;omega)),(by first | omega | (simp only;omega)),(by first | omega | (simp only;omega)),(by first | omega | (simp only;omega))⟩,?_⟩
  obtain⟨hc,ho⟩:=Ctx.closed hc 3 k cap (by omega) hcm (by rw [putAt_len,hcl])
  rw [E5 _ _ _ (by rw [hzl];omega),List.append_assoc,List.take_left' (by rw [List.length_take];omega),hct] at ho
  refine⟨some ⟨g,0,none⟩,?_,hc,hf.trans hC.2,?_⟩
  ·rw [hkl]
   show Ending.returned (Value.slice (if (cap:Int)=0 then some (⟨g,0,none⟩:Addr) else (some (⟨g,0,none⟩:Addr)).map (·.add ((0:Int).toNat*3))) ((k:Int)-0).toNat ((cap:Int)-0).toNat)=_
   rw [W2]
   congr 2<;>omega
  ·rw [hkl];exact ho
end Go.Proofs.YtefdfaeieekioaaGreatDoor
