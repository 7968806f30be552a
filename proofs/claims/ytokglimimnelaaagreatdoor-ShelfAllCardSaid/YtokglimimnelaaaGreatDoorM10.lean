import Derived.Test.YtokglimimnelaaaGreatDoorM09
import Derived.Maps.Range
import Derived.Maps.RangeWalk
import Derived.Laws.OwnMore
set_option linter.unusedVariables false
set_option linter.unusedSimpArgs false
namespace Go.Proofs.YtokglimimnelaaaGreatDoor
open Go.Vc Go.RowKit Go.Fl Go.ChangeShapes Go.WideShapes Go.ChangeAt
set_option maxRecDepth 100000
theorem idxI_any {α:Type} (p:α->Bool) (l:List α):decide (0<=idxI (l.findIdx? p))=l.any p:=by
 rw [<-List.findIdx?_isSome]
 cases l.findIdx? p with
 | none=>rfl
 | some i=>exact decide_eq_true (Int.natCast_nonneg i)
theorem find_some {α:Type} (p:α->Bool) (l:List α) (i:Nat) (hi:i<l.length) (hp:p l[i]=true) (h:∀ j (hj:j<l.length),j<i->p l[j]=false):l.findIdx? p=some i:=
 List.findIdx?_eq_some_iff_getElem.2 ⟨hi,hp,fun j hj=>by rw [h j (by omega) hj];exact Bool.false_ne_true⟩
theorem find_none {α:Type} (p:α->Bool) (l:List α) (h:∀ j (hj:j<l.length),p l[j]=false):l.findIdx? p=none:=
 List.findIdx?_eq_none_iff.2 fun x hx=>by
  obtain⟨j,hj,rfl⟩:=List.getElem_of_mem hx
  exact h j hj
def badC (c:UInt8):Bool:=!(65<=c&&c<=90)
theorem indexFuncB_any (l:List UInt8) (A:Option Addr) (n cap:Nat) (hn:n=l.length) (S:Nat->Prop) (w:World) (hR:Row S w A n cap (bv l)):
  Calls Tryz.prog 197 #[.slice A n cap,.func (.func 168) #[] #[]] w (RetB (.int .i64 (idxI (l.findIdx? badC))) w):=by
 refine vE Tryz.func197 ?_
 subst hn
 have hM:l.length<=9223372036854775807:=Nat.le_trans hR.1 hR.2.1
 refine⟨Nat,fun i=>[(0,.slice A l.length cap),(1,.func (.func 168) #[] #[]),(7,.int .i64 l.length),(8,.int .i64 i)],
  fun i w'=>i<=l.length/\(∀ j (hj:j<l.length),j<i->badC l[j]=false)/\Below w.heap.size w w',fun i _=>l.length-i,0,
  ⟨rfl,rfl,rfl,rfl,trivial⟩,⟨Nat.zero_le _,fun j hj h=>absurd h (Nat.not_lt_zero _),Below.refl _ _⟩,?_⟩
 rintro i w' u ⟨hi,he,hb⟩
 by_cases hlt:i<l.length
 ·refine split_t (decide_eq_true (by omega)) ?_
  obtain⟨ad,rfl,hcell⟩:=(hR.below hb).at (bv_get l i hlt)
  refine⟨⟨by omega,by omega⟩,?_⟩
  refine⟨_,by rw [Nat.mul_one,Int.toNat_natCast];exact hcell,?_⟩
  have e:l.getD i 0=l[i]:=by rw [List.getD_eq_getElem?_getD,List.getElem?_eq_getElem hlt];rfl
  rw [e]
  refine call_b (name1_any l[i] w') ?_
  intro w2 h2
  have hb2:=hb.trans (h2.mono hb.size)
  rcases Bool.eq_false_or_eq_true (badC l[i]) with hv | hv
  ·refine split_t hv ?_
   refine⟨?_,hb2⟩
   rw [find_some badC l i hlt hv he]
   rfl
  ·refine split_f hv ?_
   refine⟨i+1,⟨rfl,rfl,rfl,congrArg _ (i_down (by omega)),trivial⟩,⟨hlt,fun j hj h=>?_,hb2⟩,by show l.length-(i+1)<l.length-i;omega⟩
   rcases Nat.lt_succ_iff_lt_or_eq.1 h with h | h
   ·exact he j hj h
   ·subst h;exact hv
 ·refine split_f (decide_eq_false (by omega)) ?_
  refine⟨?_,hb⟩
  rw [find_none badC l (fun j hj=>he j hj (by omega))]
  rfl
theorem containsFuncB_any (l:List UInt8) (A:Option Addr) (n cap:Nat) (hn:n=l.length) (S:Nat->Prop) (w:World) (hR:Row S w A n cap (bv l)):
  Calls Tryz.prog 167 #[.slice A n cap,.func (.func 168) #[] #[]] w (RetB (.bool (l.any badC)) w):=by
 refine vE Tryz.func167 ?_
 refine call_b (indexFuncB_any l A n cap hn S w hR) ?_
 intro w2 h2
 exact⟨ret_bool (idxI_any badC l),h2⟩
theorem name_any (s:ByteArray) (hs:s.size<=9223372036854775807) (w:World):Calls Tryz.prog 112 #[.string s] w (RetB (.bool (nameB s)) w):=by
 refine vE Tryz.func112 ?_
 refine str_bytes no Tryz.underlying9 Tryz.underlying181 Tryz.underlying5 hs ?_
 intro g cap w1 hb hR
 refine call_b (containsFuncB_any s.data.toList _ _ cap rfl _ w1 hR) ?_
 intro w2 h2
 have hb2:=hb.trans (h2.mono hb.size)
 have e:s.data.toList.any badC=!(s.data.toList.all (fun c=>65<=c&&c<=90)):=by
  unfold badC
  rw [List.not_all_eq_any_not]
 rw [e]
 unfold nameB
 rcases Bool.eq_false_or_eq_true (s.data.toList.all fun c=>65<=c&&c<=90) with h | h
 ·rw [h]
  by_cases h1:(1:Int)<=(s.size:Int)
  ·refine split_t (decide_eq_true h1) ?_
   exact⟨ret_bool (by rw [decide_eq_true (show 1<=s.size by omega)];simp;omega),hb2⟩
  ·refine split_f (decide_eq_false h1) ?_
   exact⟨ret_bool (by rw [decide_eq_false (show ¬ 1<=s.size by omega)];rfl),hb2⟩
 ·rw [h]
  exact⟨rfl,hb2⟩
set_option maxRecDepth 100000
def MapK (b k:Nat) (f:ByteArray->Option Scroll):Kn:=fun S w=>S b/\MapC b k f w
theorem MapK.stab (b k:Nat) (f:ByteArray->Option Scroll):Stab (MapK b k f):=fun S w S' w' h g=>⟨g.1 _ h.1,h.2.eq (g.2 _ h.1)⟩
def chC (room:Int) (b:Nat):List Value:=[.int .i64 room,.map (some b)]
def ChestK (gc b:Nat) (C:Chest):Kn:=fun S w=>S gc/\S b/\gc≠b/\Blk w gc 91 (chC C.room b)/\MapC b C.k C.f w
theorem ChestK.stab (gc b:Nat) (C:Chest):Stab (ChestK gc b C):=fun S w S' w' h g=>⟨g.1 _ h.1,g.1 _ h.2.1,h.2.2.1,h.2.2.2.1.of_eq (g.2 _ h.1),h.2.2.2.2.eq (g.2 _ h.2.1)⟩
def RetOb (Sa:Nat->Prop) (w:World) (v:Value) (O:Kn) (en:Ending) (w':World):Prop:=
 en=.returned v/\Turn Sa w w'/\∃ Sn:Nat->Prop,(∀ x,Sn x->(Sa x\/w.heap.size<=x)/\x<w'.heap.size)/\O Sn w'
theorem ChestK.enter {gc b:Nat} {C:Chest} {Sa:Nat->Prop} {w:World} (h:ChestK gc b C Sa w):CtxF no (bare w) (fun x=>x<w.heap.size/\x≠gc) w [(gc,91,chC C.room b)] [] (Sep 0 (Keep w Sa) (MapK b C.k C.f)):=by
 obtain⟨h1,h2,h3,h4,h5⟩:=h
 refine CtxF.enter (fun x hx=>hx.1) ⟨Nat.zero_le _,fun h=>h.2 rfl,h4,(fun x hx=>by cases hx),trivial⟩ trivial ⟨fun x=>x<w.heap.size/\¬ Sa x,fun x=>x=b,fun x hx=>⟨⟨hx.1,fun e=>hx.2 (e▸h1)⟩,fun e=>hx.2 (e▸h2)⟩,fun x hx=>⟨⟨hx▸h5.lt,fun e=>h3 (e▸hx)⟩,Nat.zero_le _⟩,fun x hx hg=>⟨⟨hx,hg⟩,rfl⟩,rfl,h5⟩ (Sep.stab (Keep.stab _ _) (MapK.stab _ _ _))
theorem ChestK.leave {gc b k:Nat} {room:Int} {f:ByteArray->Option Scroll} {Sa S:Nat->Prop} {w w':World} (hg:Sa gc) (hb:Sa b) (hne:gc≠b) (hc:CtxF no (bare w) S w' [(gc,91,chC room b)] [] (Sep 0 (Keep w Sa) (MapK b k f))) (v:Value):RetOb Sa w v (ChestK gc b ⟨room,f,k⟩) (Ending.returned v) w':=by
 obtain⟨S1,Sb,h1,h2,h3,h4⟩:=hc.row
 refine⟨rfl,hc.leave h3,fun x=>x=gc\/x=b,fun x hx=>?_,.inl rfl,.inr rfl,hne,hc.blk 0 rfl,h4.2⟩
 rcases hx with rfl | rfl
 ·exact⟨.inl hg,(hc.blk 0 rfl).lt⟩
 ·exact⟨.inl hb,h4.2.lt⟩
theorem _root_.Go.Vc.CtxF.mapc {w0 w w':World} {S:Nat->Prop} {l:List LB} {os:List OR} {R:Kn} {b k k':Nat} {f f':ByteArray->Option Scroll} (hc:CtxF no w0 S w l os (Sep w0.heap.size R (MapK b k f))) (hR:Stab R) (hg:w.grownBy w' (some b)) (hm:MapC b k' f' w'):
  ∃ S',CtxF no w0 S' w' l os (Sep w0.heap.size R (MapK b k' f')):=by
 obtain⟨S1,Sb,h1,h2,h3,h4⟩:=hc.row
 refine⟨_,hc.turnO hR h1 h2 h3 (Sn:=fun x=>x=b) ⟨hg.os,hg.tape,hg.output,fun x hx hn=>hg.block x hx (fun e=>hn (by rw [Option.some.inj e];exact h4.1))⟩ (fun x hx=>?_) ⟨rfl,hm⟩ (MapK.stab _ _ _)⟩
 have hx:x=b:=hx
 subst hx
 exact⟨.inl h4.1,hm.lt⟩
theorem _root_.Go.Vc.CtxF.mapOf {w0 w:World} {S:Nat->Prop} {l:List LB} {os:List OR} {R:Kn} {n b k:Nat} {f:ByteArray->Option Scroll} (hc:CtxF no w0 S w l os (Sep n R (MapK b k f))):MapC b k f w:=(hc.row.right (MapK.stab _ _ _)).2
theorem ChestK.now {w0 w:World} {S:Nat->Prop} {l:List LB} {os:List OR} {R:Kn} {n gc b k:Nat} {room:Int} {f:ByteArray->Option Scroll} (hc:CtxF no w0 S w l os (Sep n R (MapK b k f))) (i:Nat) (hi:l[i]?=some (gc,91,chC room b)) (hne:gc≠b):ChestK gc b ⟨room,f,k⟩ (fun x=>x=gc\/x=b) w:=
 ⟨.inl rfl,.inr rfl,hne,hc.blk i hi,hc.mapOf⟩
theorem chNil (g:Nat) (ox oy:Operand) (w:World):(do eqGuard BinOp.eql 24 ox oy (.pointer (some ⟨g,0,none⟩)) (.pointer none);Go.binOp BinOp.eql 24 (.pointer (some ⟨g,0,none⟩)) (.pointer none):Sem Value).run Tryz.prog w=.ok (.bool false) w:=by kernel_rfl
theorem has_any (gc b:Nat) (C:Chest) (x:ByteArray) (hx:x.size<=9223372036854775807) (S:Nat->Prop) (w:World) (hK:ChestK gc b C S w):
  Calls Tryz.prog 113 #[.pointer (some ⟨gc,0,none⟩),.string x] w (RetB (.tuple #[.agg (scC ((C.f x).getD sc0)).toArray,.int .i64 (if (C.f x).isSome then 0 else 6)]) w):=by
 refine vE Tryz.func113 ?_
 have hc:=CtxF.start w (fun x=>x=gc\/x=b) (fun x hx=>hx.elim (fun e=>e▸hK.2.2.2.1.lt) (fun e=>e▸hK.2.2.2.2.lt)) (R:=ChestK gc b C) ⟨.inl rfl,.inr rfl,hK.2.2⟩ (ChestK.stab _ _ _)
 refine hc.n fun g4 wg4 hg4 hc=>?_
 refine⟨.bool false,fun w=>chNil gc _ _ w,?_⟩
 refine⟨_,(hc.row.2.2.2.1.cell 1).trans rfl,?_⟩
 refine⟨_,_,hc.row.2.2.2.2.look_ok hx,?_⟩
 refine hc.n fun g6 wg6 hg6 hc=>?_
 refine hc.s 0 rfl fun wS hS hc=>?_
 cases e:C.f x with
 | none=>
  rw [e] at hc
  refine hc.s 1 rfl fun wS hS hc=>?_
  refine hc.a 1 rfl rfl ?_
  exact⟨rfl,hc.below⟩
 | some r=>
  rw [e] at hc
  refine hc.a 0 rfl rfl ?_
  refine hc.s 1 rfl fun wS hS hc=>?_
  refine hc.a 1 rfl rfl ?_
  exact⟨rfl,hc.below⟩
def writeC (C:Chest) (to s:ByteArray):Chest × Int:=
 if nameB to then
  if C.room<(s.size:Int) then (C,5)
  else (⟨C.room-s.size,putF C.f to ⟨((C.f to).getD sc0).s++s,((C.f to).getD sc0).pressed,((C.f to).getD sc0).kept⟩,putN C.f C.k to⟩,0)
 else (C,1)
theorem write_any (gc b:Nat) (C:Chest) (to s:ByteArray) (hto:to.size<=9223372036854775807) (hr : -1000000000000<=C.room/\C.room<=1000000000000) (hs:s.size<=1000000000000) (hl:((C.f to).getD sc0).s.size<=1000000000000) (hkk:C.k<1000000) (Sa:Nat->Prop) (w:World) (hK:ChestK gc b C Sa w):
  Calls Tryz.prog 116 #[.pointer (some ⟨gc,0,none⟩),.string to,.string s] w (RetOb Sa w (.int .i64 (writeC C to s).2) (ChestK gc b (writeC C to s).1)):=by
 obtain⟨q,hq⟩:∃ q,q=writeC C to s:=⟨_,rfl⟩
 rw [<-hq]
 unfold writeC at hq
 have hg:=hK.1
 have hb:=hK.2.1
 have hne:=hK.2.2.1
 have hc:=hK.enter
 refine vE Tryz.func116 ?_
 refine⟨.bool false,fun w=>chNil gc _ _ w,?_⟩
 refine hc.q (name_any to hto _) fun wQ hQ hc=>?_
 cases hn:nameB to with
 | false=>
  rw [hn] at hq
  subst hq
  exact ChestK.leave hg hb hne hc _
 | true=>
  rw [hn,if_pos rfl] at hq
  refine⟨_,hc.cell 0 rfl _ rfl,?_⟩
  by_cases hx:C.room<(s.size:Int)
  ·rw [if_pos hx] at hq
   subst hq
   refine split_t (decide_eq_true hx) ?_
   exact ChestK.leave hg hb hne hc _
  rw [if_neg hx] at hq
  refine split_f (decide_eq_false hx) ?_
  refine⟨_,hc.cell 0 rfl _ rfl,?_⟩
  refine⟨_,_,hc.mapOf.look hto,?_⟩
  refine hc.n fun g7 wg7 hg7 hc=>?_
  refine hc.s 0 rfl fun wS hS hc=>?_
  refine⟨_,hc.cell 0 rfl _ rfl,?_⟩
  refine⟨by simp only [ByteArray.size] at *;omega,?_⟩
  refine hc.s 0 rfl fun wS hS hc=>?_
  have hr:=hc
  refine vD (.Q [0,1,2,3,4,5] (.z 6)) (Old _) (Old.start _) ?_
  have hk:=hc.old0
  have hc:=hc.drew
  refine⟨_,fun x hx=>Keeps.cell hx (hr.blk 1 rfl) (hr.blk 1 rfl).lt rfl,?_⟩
  refine⟨_,?_,fun x hx=>Keeps.cells hx (hr.blk 0 rfl) (hr.blk 0 rfl).lt,?_⟩
  ·rfl
  obtain⟨wm,hm1,hm2,_,hm3⟩:=hc.mapOf.store hto hkk ⟨((C.f to).getD sc0).s++s,((C.f to).getD sc0).pressed,((C.f to).getD sc0).kept⟩
  refine⟨wm,hm1,?_⟩
  obtain⟨S',hc⟩:=hc.mapc (Keep.stab _ _) hm2 hm3
  refine⟨_,hc.cell 1 rfl _ rfl,?_⟩
  refine hc.s 1 rfl fun wS hS hc=>?_
  rw [show IntKind.i64.wrap (C.room-(s.size:Int))=C.room-s.size from IntWalk.i64_in _ ⟨by omega,by omega⟩] at hc
  subst hq
  exact ChestK.leave hg hb hne hc.drop _
def pressC (C:Chest) (x:ByteArray):Chest × Int:=
 match C.f x with
 | none=>(C,6)
 | some r=>(⟨C.room,putF C.f x ⟨r.s,r.s.size,true⟩,putN C.f C.k x⟩,0)
theorem press_any (gc b:Nat) (C:Chest) (x:ByteArray) (hx:x.size<=9223372036854775807) (hkk:C.k<1000000) (Sa:Nat->Prop) (w:World) (hK:ChestK gc b C Sa w):
  Calls Tryz.prog 117 #[.pointer (some ⟨gc,0,none⟩),.string x] w (RetOb Sa w (.int .i64 (pressC C x).2) (ChestK gc b (pressC C x).1)):=by
 obtain⟨q,hq⟩:∃ q,q=pressC C x:=⟨_,rfl⟩
 rw [<-hq]
 unfold pressC at hq
 have hg:=hK.1
 have hb:=hK.2.1
 have hne:=hK.2.2.1
 have hc:=hK.enter
 have hh:=has_any gc b C x hx _ _ hK
 refine vE Tryz.func117 ?_
 cases e:C.f x with
 | none=>
  rw [e] at hq hh
  simp only at hq
  refine hc.q (hh) fun wQ hQ hc=>?_
  refine hc.n fun g5 wg5 hg5 hc=>?_
  refine hc.s 0 rfl fun wS hS hc=>?_
  subst hq
  exact ChestK.leave hg hb hne hc.drop _
 | some r=>
  rw [e] at hq hh
  simp only at hq
  refine hc.q (hh) fun wQ hQ hc=>?_
  refine hc.n fun g5 wg5 hg5 hc=>?_
  refine hc.s 0 rfl fun wS hS hc=>?_
  have hr:=hc
  refine vD (.Q [0,1,2,3,4,5,6,7,8,9,10] (.z 11)) (Old _) (Old.start _) ?_
  have hk:=hc.old0
  have hc:=hc.drew
  refine⟨_,fun x hx=>Keeps.cell hx (hr.blk 1 rfl) (hr.blk 1 rfl).lt rfl,?_⟩
  refine⟨_,fun x hx=>Keeps.cell hx (hr.blk 0 rfl) (hr.blk 0 rfl).lt rfl,?_⟩
  refine⟨_,fun x hx=>Keeps.cell hx (hr.blk 0 rfl) (hr.blk 0 rfl).lt rfl,?_⟩
  obtain⟨wm,hm1,hm2,_,hm3⟩:=hc.mapOf.store hx hkk ⟨r.s,r.s.size,true⟩
  refine⟨wm,hm1,?_⟩
  obtain⟨S',hc⟩:=hc.mapc (Keep.stab _ _) hm2 hm3
  subst hq
  exact ChestK.leave hg hb hne hc.drop _
theorem read_any (gc b:Nat) (C:Chest) (x:ByteArray) (hx:x.size<=9223372036854775807) (S:Nat->Prop) (w:World) (hK:ChestK gc b C S w):
  Calls Tryz.prog 70 #[.pointer (some ⟨gc,0,none⟩),.string x] w (RetB (.tuple #[.string ((C.f x).getD sc0).s,.bool (C.f x).isSome]) w):=by
 have hh:=has_any gc b C x hx _ _ hK
 refine vE Tryz.func70 ?_
 have hc:=CtxF.start w no (fun _ h=>h.elim) (R:=fun _ _=>True) trivial Stab.true
 cases e:C.f x with
 | none=>
  rw [e] at hh
  refine hc.q (hh) fun wQ hQ hc=>?_
  refine hc.n fun g5 wg5 hg5 hc=>?_
  refine hc.s 0 rfl fun wS hS hc=>?_
  refine⟨_,hc.cell 0 rfl _ rfl,?_⟩
  exact⟨rfl,hc.below⟩
 | some r=>
  rw [e] at hh
  refine hc.q (hh) fun wQ hQ hc=>?_
  refine hc.n fun g5 wg5 hg5 hc=>?_
  refine hc.s 0 rfl fun wS hS hc=>?_
  refine⟨_,hc.cell 0 rfl _ rfl,?_⟩
  exact⟨rfl,hc.below⟩
theorem pressed_any (gc b:Nat) (C:Chest) (x:ByteArray) (hx:x.size<=9223372036854775807) (S:Nat->Prop) (w:World) (hK:ChestK gc b C S w):
  Calls Tryz.prog 192 #[.pointer (some ⟨gc,0,none⟩),.string x] w (RetB (.int .i64 ((C.f x).getD sc0).pressed) w):=by
 have hh:=has_any gc b C x hx _ _ hK
 refine vE Tryz.func192 ?_
 have hc:=CtxF.start w no (fun _ h=>h.elim) (R:=fun _ _=>True) trivial Stab.true
 refine hc.q (hh) fun wQ hQ hc=>?_
 refine hc.n fun g5 wg5 hg5 hc=>?_
 refine hc.s 0 rfl fun wS hS hc=>?_
 refine⟨_,hc.cell 0 rfl _ rfl,?_⟩
 exact⟨rfl,hc.below⟩
theorem room_any (gc b:Nat) (C:Chest) (S:Nat->Prop) (w:World) (hK:ChestK gc b C S w):
  Calls Tryz.prog 193 #[.pointer (some ⟨gc,0,none⟩)] w (RetB (.int .i64 C.room) w):=by
 refine vE Tryz.func193 ?_
 refine⟨.bool false,fun w=>chNil gc _ _ w,?_⟩
 refine⟨_,(hK.2.2.2.1.cell 0).trans rfl,?_⟩
 exact⟨rfl,Below.refl _ _⟩
def cutCh (C:Chest) (x:ByteArray) (n:Int):Chest × Int:=
 match C.f x with
 | none=>(C,6)
 | some r=>if n<0\/(r.s.size:Int)<n then (C,4)
  else (⟨C.room+(r.s.size-n),putF C.f x ⟨r.s.extract 0 n.toNat,if n<r.pressed then n else r.pressed,true⟩,putN C.f C.k x⟩,0)
theorem cut2_any (gc b:Nat) (C:Chest) (x:ByteArray) (n:Int) (hx:x.size<=9223372036854775807) (hr : -1000000000000<=C.room/\C.room<=1000000000000) (hl:((C.f x).getD sc0).s.size<=1000000000000) (hkk:C.k<1000000) (Sa:Nat->Prop) (w:World) (hK:ChestK gc b C Sa w):
  Calls Tryz.prog 74 #[.pointer (some ⟨gc,0,none⟩),.string x,.int .i64 n] w (RetOb Sa w (.int .i64 (cutCh C x n).2) (ChestK gc b (cutCh C x n).1)):=by
 obtain⟨q,hq⟩:∃ q,q=cutCh C x n:=⟨_,rfl⟩
 rw [<-hq]
 unfold cutCh at hq
 have hg:=hK.1
 have hb:=hK.2.1
 have hne:=hK.2.2.1
 have hc:=hK.enter
 have hh:=has_any gc b C x hx _ _ hK
 refine vE Tryz.func74 ?_
 cases e:C.f x with
 | none=>
  rw [e] at hq hh
  simp only at hq
  refine hc.q (hh) fun wQ hQ hc=>?_
  refine hc.n fun g7 wg7 hg7 hc=>?_
  refine hc.s 0 rfl fun wS hS hc=>?_
  subst hq
  exact ChestK.leave hg hb hne hc.drop _
 | some r=>
  rw [e] at hq hh hl
  rw [show (some r).getD sc0=r from rfl] at hh
  simp only at hq
  have hl:r.s.size<=1000000000000:=hl
  refine hc.q (hh) fun wQ hQ hc=>?_
  refine hc.n fun g7 wg7 hg7 hc=>?_
  refine hc.s 0 rfl fun wS hS hc=>?_
  by_cases h1:n<0
  ·rw [if_pos (.inl h1)] at hq
   subst hq
   refine split_t (decide_eq_true h1) ?_
   exact ChestK.leave hg hb hne hc.drop _
  refine split_f (decide_eq_false h1) ?_
  refine⟨_,hc.cell 0 rfl _ rfl,?_⟩
  by_cases h2:(r.s.size:Int)<n
  ·rw [if_pos (.inr h2)] at hq
   subst hq
   refine split_t (decide_eq_true h2) ?_
   exact ChestK.leave hg hb hne hc.drop _
  rw [if_neg (fun h=>h.elim h1 h2)] at hq
  refine split_f (decide_eq_false h2) ?_
  have hw1:IntKind.i64.wrap ((r.s.size:Int)-n)=(r.s.size:Int)-n:=IntWalk.i64_in _ ⟨by omega,by omega⟩
  have hw2:IntKind.i64.wrap (C.room+((r.s.size:Int)-n))=C.room+((r.s.size:Int)-n):=IntWalk.i64_in _ ⟨by omega,by omega⟩
  refine Drawn.join (α:=Unit) (fun _=>[(0,.pointer (some ⟨gc,0,none⟩)),(1,.string x),(2,.int .i64 n),(7,.pointer (some ⟨g7,0,none⟩))])
   (fun _ wS=>∃ S,CtxF no (bare w) S wS [(g7,114,scC r),(gc,91,chC (C.room+((r.s.size:Int)-n)) b)] [] (Sep 0 (Keep w Sa) (MapK b C.k C.f))) ?_ ?_
  ·refine vD (.Q [0,1,2,4,7] (.n 3 (.n 5 (.Q [6,8,9,10,11] (.n 12 .fin .stop)) .stop) (.n 5 (.Q [6,8] (.n 3 (.Q [9,10,11] (.n 12 .fin .stop)) .stop)) .stop))) (fun _=>True) trivial ?_
   have hc:=hc.drew
   refine⟨?_,?_⟩
   ·skip
    refine⟨_,hc.cell 1 rfl _ rfl,trivial,?_⟩
    refine⟨⟨_,hc.cell 0 rfl _ rfl,trivial,?_⟩,trivial⟩
    refine⟨hc.s' 1 rfl fun wS hS hc=>?_,trivial⟩
    rw [hw1,hw2] at hc
    exact⟨(),⟨rfl,rfl,rfl,rfl,trivial⟩,_,hc⟩
   refine⟨⟨_,hc.cell 0 rfl _ rfl,trivial,?_⟩,trivial⟩
   refine⟨⟨_,hc.cell 1 rfl _ rfl,trivial,?_⟩,trivial⟩
   refine⟨hc.s' 1 rfl fun wS hS hc=>?_,trivial⟩
   rw [hw1,hw2] at hc
   exact⟨(),⟨rfl,rfl,rfl,rfl,trivial⟩,_,hc⟩
  clear hc
  rintro⟨⟩ u wS ⟨S,hc⟩
  have hr:=hc
  refine vD (.Q [0,1,2,3,4,5,6,7,8,9,10,11,12,13] (.z 14)) (Old _) (Old.start _) ?_
  have hk:=hc.old0
  have hc:=hc.drew
  refine⟨_,fun x hx=>Keeps.cell hx (hr.blk 1 rfl) (hr.blk 1 rfl).lt rfl,?_⟩
  refine⟨_,fun x hx=>Keeps.cell hx (hr.blk 0 rfl) (hr.blk 0 rfl).lt rfl,?_⟩
  refine⟨⟨by omega,by omega,by omega⟩,?_⟩
  refine⟨_,fun x hx=>Keeps.cell hx (hr.blk 0 rfl) (hr.blk 0 rfl).lt rfl,?_⟩
  obtain⟨wm,hm1,hm2,_,hm3⟩:=hc.mapOf.store hx hkk ⟨r.s.extract 0 n.toNat,if n<r.pressed then n else r.pressed,true⟩
  refine⟨wm,hm1,?_⟩
  obtain⟨S',hc⟩:=hc.mapc (Keep.stab _ _) hm2 hm3
  subst hq
  exact ChestK.leave hg hb hne hc.drop _
def callCh (C:Chest) (x to:ByteArray):Chest × Int:=
 if nameB to then match C.f x with
  | none=>(C,6)
  | some r=>if x=to then (C,0)
   else (⟨C.room+((C.f to).getD sc0).s.size,putF (delF C.f x) to ⟨r.s,r.pressed,true⟩,putN (delF C.f x) (delN C.f C.k x) to⟩,0)
 else (C,1)
theorem delN_le (f:ByteArray->Option Scroll) (k:Nat) (x:ByteArray):delN f k x<=k:=by
 unfold delN
 split<;>omega
theorem call_any (gc b:Nat) (C:Chest) (x to:ByteArray) (hx:x.size<=9223372036854775807) (hto:to.size<=9223372036854775807) (hr : -1000000000000<=C.room/\C.room<=1000000000000) (hl:((C.f to).getD sc0).s.size<=1000000000000) (hkk:C.k<1000000) (Sa:Nat->Prop) (w:World) (hK:ChestK gc b C Sa w):
  Calls Tryz.prog 69 #[.pointer (some ⟨gc,0,none⟩),.string x,.string to] w (RetOb Sa w (.int .i64 (callCh C x to).2) (ChestK gc b (callCh C x to).1)):=by
 obtain⟨q,hq⟩:∃ q,q=callCh C x to:=⟨_,rfl⟩
 rw [<-hq]
 unfold callCh at hq
 have hg:=hK.1
 have hb:=hK.2.1
 have hne:=hK.2.2.1
 have hc:=hK.enter
 refine vE Tryz.func69 ?_
 refine⟨.bool false,fun w=>chNil gc _ _ w,?_⟩
 refine hc.q (name_any to hto _) fun wQ hQ hc=>?_
 cases hn:nameB to with
 | false=>
  rw [hn] at hq
  subst hq
  exact ChestK.leave hg hb hne hc _
 | true=>
  rw [hn,if_pos rfl] at hq
  have hh:=has_any gc b C x hx _ _ (ChestK.now hc 0 rfl hne)
  cases e:C.f x with
  | none=>
   rw [e] at hq hh
   simp only at hq
   refine hc.q (hh) fun wQ hQ hc=>?_
   refine hc.n fun g7 wg7 hg7 hc=>?_
   refine hc.s 0 rfl fun wS hS hc=>?_
   subst hq
   exact ChestK.leave hg hb hne hc.drop _
  | some r=>
   rw [e] at hq hh
   rw [show (some r).getD sc0=r from rfl] at hh
   simp only at hq
   refine hc.q (hh) fun wQ hQ hc=>?_
   refine hc.n fun g7 wg7 hg7 hc=>?_
   refine hc.s 0 rfl fun wS hS hc=>?_
   by_cases h1:x=to
   ·rw [if_pos h1] at hq
    subst hq
    refine split_t (strEq_iff.2 h1) ?_
    exact ChestK.leave hg hb hne hc.drop _
   rw [if_neg h1] at hq
   refine split_f (by rw [<-Bool.not_eq_true,strEq_iff];exact h1) ?_
   have hw1:IntKind.i64.wrap (C.room+(((C.f to).getD sc0).s.size:Int))=C.room+((C.f to).getD sc0).s.size:=IntWalk.i64_in _ ⟨by omega,by omega⟩
   refine Drawn.join (α:=Unit) (fun _=>[(0,.pointer (some ⟨gc,0,none⟩)),(1,.string x),(2,.string to),(7,.pointer (some ⟨g7,0,none⟩))])
    (fun _ wS=>∃ S,CtxF no (bare w) S wS [(g7,114,scC r),(gc,91,chC (C.room+((C.f to).getD sc0).s.size) b)] [] (Sep 0 (Keep w Sa) (MapK b C.k C.f))) ?_ ?_
   ·refine vD (.Q [0,1,2,4,5,6,8] (.n 3 (.n 7 (.n 9 (.Q [10,11,12,13,14] (.n 15 .fin .stop)) .stop) .stop) (.n 7 (.n 3 (.n 9 (.Q [10,11,12,13,14] (.n 15 .fin .stop)) .stop) (.n 9 (.Q [10,11] (.n 3 (.Q [12,13,14] (.n 15 .fin .stop)) .stop)) .stop)) .stop))) (fun _=>True) trivial ?_
    have hc:=hc.drew
    refine⟨?_,?_⟩
    ·skip
     refine⟨_,hc.cell 1 rfl _ rfl,trivial,?_⟩
     refine⟨⟨_,hc.cell 1 rfl _ rfl,trivial,?_⟩,trivial⟩
     refine⟨⟨_,_,hc.mapOf.look hto,trivial,?_⟩,trivial⟩
     refine⟨hc.s' 1 rfl fun wS hS hc=>?_,trivial⟩
     rw [hw1] at hc
     exact⟨(),⟨rfl,rfl,rfl,rfl,trivial⟩,_,hc⟩
    refine⟨⟨_,hc.cell 1 rfl _ rfl,trivial,?_⟩,trivial⟩
    refine⟨?_,?_⟩
    ·skip
     refine⟨_,hc.cell 1 rfl _ rfl,trivial,?_⟩
     refine⟨⟨_,_,hc.mapOf.look hto,trivial,?_⟩,trivial⟩
     refine⟨hc.s' 1 rfl fun wS hS hc=>?_,trivial⟩
     rw [hw1] at hc
     exact⟨(),⟨rfl,rfl,rfl,rfl,trivial⟩,_,hc⟩
    refine⟨⟨_,_,hc.mapOf.look hto,trivial,?_⟩,trivial⟩
    refine⟨⟨_,hc.cell 1 rfl _ rfl,trivial,?_⟩,trivial⟩
    refine⟨hc.s' 1 rfl fun wS hS hc=>?_,trivial⟩
    rw [hw1] at hc
    exact⟨(),⟨rfl,rfl,rfl,rfl,trivial⟩,_,hc⟩
   clear hc
   rintro⟨⟩ u wS ⟨S,hc⟩
   refine⟨_,hc.cell 1 rfl _ rfl,?_⟩
   obtain⟨wm,hm1,hm2,_,hm3⟩:=hc.mapOf.drop hx 0 _
   refine⟨_,wm,hm1,?_⟩
   obtain⟨S',hc⟩:=hc.mapc (Keep.stab _ _) hm2 hm3
   have hr:=hc
   refine vD (.Q [0,1,2,3,4,5,6,7,8,9] (.z 10)) (Old _) (Old.start _) ?_
   have hk:=hc.old0
   have hc:=hc.drew
   refine⟨_,fun x hx=>Keeps.cell hx (hr.blk 1 rfl) (hr.blk 1 rfl).lt rfl,?_⟩
   refine⟨_,fun x hx=>Keeps.cell hx (hr.blk 0 rfl) (hr.blk 0 rfl).lt rfl,?_⟩
   refine⟨_,fun x hx=>Keeps.cell hx (hr.blk 0 rfl) (hr.blk 0 rfl).lt rfl,?_⟩
   obtain⟨wn,hn1,hn2,_,hn3⟩:=hc.mapOf.store hto (Nat.lt_of_le_of_lt (delN_le _ _ _) hkk) ⟨r.s,r.pressed,true⟩
   refine⟨wn,hn1,?_⟩
   obtain⟨S'',hc⟩:=hc.mapc (Keep.stab _ _) hn2 hn3
   subst hq
   exact ChestK.leave hg hb hne hc.drop _
def newC (n:Int):Chest:=⟨if (1048576:Int)<(if 0 > n then 0 else n) then 1048576 else (if 0 > n then 0 else n),fun _=>none,0⟩
theorem new_any (n:Int) (w:World):Calls Tryz.prog 14 #[.int .i64 n] w (fun en w'=>∃ gc b,en=.returned (.pointer (some ⟨gc,0,none⟩))/\Below w.heap.size w w'/\ChestK gc b (newC n) (ext no w w') w'):=by
 refine vE Tryz.func14 ?_
 have hc:=CtxF.start w no (fun _ h=>h.elim) (R:=fun _ _=>True) trivial Stab.true
 refine⟨_,_,run_makeMap _ _,?_⟩
 have hb:Below w.heap.size w (w.alloc (.map #[] 0)):=(Below.refl _ _).alloc (Nat.le_refl _) _
 have hs:(w.alloc (.map #[] 0)).heap.size=w.heap.size+1:=Array.size_push ..
 intro g w1 h1
 have hg:g=w.heap.size+1:=h1.1.trans hs
 have hl:=h1.blk.lt
 exact⟨g,w.heap.size,rfl,hb.trans (h1.below.mono (by omega)),.inr ⟨by omega,hl⟩,.inr ⟨Nat.le_refl _,by omega⟩,by omega,h1.blk,(MapC.made w).eq (h1.below.block _ (by omega))⟩
set_option maxRecDepth 100000
theorem one_key {D:DataW Unit} (hT:Maps.Tidy D) (h1:Maps.size D=1) {a b:Lit} (ha:Maps.has D a=true) (hb:Maps.has D b=true):a=b:=by
 obtain⟨es,rfl,_⟩:=hT
 rw [Maps.size_eq] at h1
 rw [Maps.has_eq] at ha hb
 match es,h1 with
 | [p],_=>
  simp only [List.any_cons,List.any_nil,Bool.or_false] at ha hb
  exact (WideAt.sameKey_eq ha).symm.trans (WideAt.sameKey_eq hb)
def RangeK (b r:Nat) (x:ByteArray) (s:Scroll) (o:Option Obj) (more:Bool):Kn:=fun S w=>S b/\S r/\b≠r/\w.heap[b]?=o/\
 ∃ (D:DataW Unit) (left:Lit->Bool) (cnt:Nat),w.ranges Tryz.prog 9 scR b r 1 D left cnt/\(∀ l,left l=true->l=.string x.data.toList)/\D.atKey (.string x.data.toList) (scD sc0)=scD s/\
  (more=true->left (.string x.data.toList)=true)/\(more=false->∀ l,left l=false)
theorem ranges_eq {P:Program} {t:TypeId} {R:Value->Option (DataW Unit × List MemPlace)} {w w':World} {b r n cnt:Nat} {D:DataW Unit} {left:Lit->Bool} (h:w.ranges P t R b r n D left cnt) (e1:w'.heap[b]?=w.heap[b]?) (e2:w'.heap[r]?=w.heap[r]?):w'.ranges P t R b r n D left cnt:=by
 obtain⟨es,clock,since,seen,c0,hb,F,hs,hD,hr,rest⟩:=h
 exact⟨es,clock,since,seen,c0,e1.trans hb,F,hs,hD,e2.trans hr,rest⟩
theorem RangeK.stab (b r:Nat) (x:ByteArray) (s:Scroll) (o:Option Obj) (more:Bool):Stab (RangeK b r x s o more):=fun S w S' w' h g=>by
 obtain⟨h1,h2,h3,h4,D,left,cnt,h5,h6⟩:=h
 exact⟨g.1 _ h1,g.1 _ h2,h3,(g.2 _ h1).trans h4,D,left,cnt,ranges_eq h5 (g.2 _ h1) (g.2 _ h2),h6⟩
theorem mapC_one {b:Nat} {f:ByteArray->Option Scroll} {w:World} {x:ByteArray} {s:Scroll} (h:MapC b 1 f w) (hx:x.size<=maxLen) (hf:f x=some s):
  ∃ w',(Instr.range 89 (.map (some b))).run Tryz.prog w=.ok (.pointer (some ⟨w.heap.size,0,none⟩)) w'/\Below w.heap.size w w'/\RangeK b w.heap.size x s w.heap[b]? true (fun y=>y=b\/y=w.heap.size) w':=by
 obtain⟨D,hD,hz,hk⟩:=h
 obtain⟨w',h1,h2,h3,h4⟩:=hD.range keyedS mapUC
 have hb:=hD.lt
 obtain⟨k1,k2⟩:=hk x hx
 rw [hf] at k1
 have k2:=k2 s hf
 have hkl:WideAt.IsKeyLit (.string x.data.toList):=trivial
 refine⟨w',h1,⟨h3.os,h3.tape,h3.output,h3.size,fun y hy=>h3.block y hy (fun e=>by cases e)⟩,.inl rfl,.inr rfl,by omega,h3.block b hb (fun e=>by cases e),D,_,_,hz▸h2,fun l hl=>?_,k2,fun _=>k1,fun e=>by cases e⟩
 exact one_key (hD.tidy keyedS) hz hl k1
theorem RangeK.next {b r:Nat} {x:ByteArray} {s:Scroll} {o:Option Obj} {more:Bool} {S:Nat->Prop} {w:World} (h:RangeK b r x s o more S w) (ty:TypeId):
  (more=false->(Instr.next (.pointer (some ⟨r,0,none⟩)) false ty).run Tryz.prog w=.ok (.tuple #[.bool false]) w)/\
  (more=true->∃ w',(Instr.next (.pointer (some ⟨r,0,none⟩)) false ty).run Tryz.prog w=.ok (.tuple #[.bool true,.string x,.agg (scC s).toArray]) w'/\w.grownBy w' (some r)/\w'.heap.size=w.heap.size/\RangeK b r x s o false S w'/\
   (Instr.entry (.pointer (some ⟨r,0,none⟩))).run Tryz.prog w'=.ok (.tuple #[.string x,.agg (scC s).toArray]) w'):=by
 obtain⟨h1,h2,h3,h4,D,left,cnt,h5,h6,h7,h8,h9⟩:=h
 have hkl:WideAt.IsKeyLit (.string x.data.toList):=trivial
 rcases h5.next keyedS ty with ⟨k1,k2,k3⟩ | ⟨key,v,kl,y,w',cnt',k1,k2,k3,k4,k5,k6,k7,k8,k9,k10⟩
 ·refine⟨fun _=>k3,fun e=>?_⟩
  have:=h8 e
  rw [k2] at this
  cases this
 ·refine⟨fun e=>?_,fun e=>?_⟩
  ·have:=h9 e kl
   rw [k2] at this
   cases this
  have ekl:=h6 kl k2
  subst ekl
  obtain⟨t,rfl,e2,_⟩:=WideMaps.string_of_keyOf Tryz.underlying9 k1
  have et:t=x:=by
   injection e2 with e2
   exact strEq_iff.1 (beq_iff_eq.2 e2.symm)
  subst et
  obtain⟨yd,yp⟩:=y
  obtain⟨s',rfl,hd⟩:=scR_inv k3
  have e3:=(k4 (scD sc0)).symm.trans h7
  have e4:s'=s:=scD_inj (hd.symm.trans e3)
  subst e4
  refine⟨w',k5,k8,k9,⟨h1,h2,h3,(k8.block b h5.owns.lt (fun e=>h3 (Option.some.inj e))).trans h4,D,_,_,k6,fun l hl=>?_,h7,(fun e=>by cases e),fun _ l=>?_⟩,k10⟩
  ·simp only [Bool.and_eq_true] at hl
   exact h6 l hl.1
  ·cases hl:left l with
   | false=>rfl
   | true=>
    have:=h6 l hl
    subst this
    rw [WideAt.sameKey_self hkl]
    rfl
def tearN (s:Scroll) (n:Int):Int:=if 0<n then s.pressed+n.tmod ((s.s.size:Int)-s.pressed+1) else s.pressed
def tearC (C:Chest) (x:ByteArray) (s:Scroll) (n:Int):Chest:=
 ⟨C.room+((s.s.size:Int)-tearN s n),if 0<tearN s n\/s.kept=true then putF (fun _=>none) x ⟨s.s.extract 0 (tearN s n).toNat,tearN s n,true⟩ else fun _=>none,if 0<tearN s n\/s.kept=true then 1 else 0⟩
theorem tearN_le {s:Scroll} (hp:0<=s.pressed/\s.pressed<=s.s.size) (n:Int):s.pressed<=tearN s n/\tearN s n<=s.s.size:=by
 unfold tearN
 split
 ·have h1:=Int.tmod_lt_of_pos n (show (0:Int)<(s.s.size:Int)-s.pressed+1 by omega)
  have h2:=Int.tmod_nonneg ((s.s.size:Int)-s.pressed+1) (show 0<=n by omega)
  omega
 ·omega
def tearI (gc b r b2:Nat) (C:Chest) (x:ByteArray) (s:Scroll) (n:Int) (o:Option Obj) (w2:World) (G:Nat->Prop) (g5:Nat) (more:Bool) (w':World):Prop:=
 ∃ S,CtxF no (bare w2) S w' [(g5,91,chC (if more then C.room else (tearC C x s n).room) b2)] [] (Sep 0 (Sep 0 (Keep w2 G) (RangeK b r x s o more)) (MapK b2 (if more then 0 else (tearC C x s n).k) (if more then fun _=>none else (tearC C x s n).f)))
set_option maxHeartbeats 4000000 in
theorem tear_any (gc b:Nat) (C:Chest) (x:ByteArray) (s:Scroll) (hx:x.size<=9223372036854775807) (hf:C.f x=some s) (hk1:C.k=1) (hp:0<=s.pressed/\s.pressed<=s.s.size) (hs:s.s.size<=1000000000000) (hr : -1000000000000<=C.room/\C.room<=1000000000000)
  (n:Int) (S:Nat->Prop) (w:World) (hK:ChestK gc b C S w):
  Calls Tryz.prog 21 #[.pointer (some ⟨gc,0,none⟩),.int .i64 n] w (fun en w'=>∃ gc' b',en=.returned (.pointer (some ⟨gc',0,none⟩))/\Below w.heap.size w w'/\ChestK gc' b' (tearC C x s n) (ext no w w') w'):=by
 obtain⟨_,_,hne,hB,hM⟩:=hK
 refine vE Tryz.func21 ?_
 refine⟨.bool false,fun w=>chNil gc _ _ w,?_⟩
 refine⟨_,(hB.cell 0).trans rfl,?_⟩
 refine⟨_,_,run_makeMap _ _,?_⟩
 have hb1:Below w.heap.size w (w.alloc (.map #[] 0)):=(Below.refl _ _).alloc (Nat.le_refl _) _
 have hs1:(w.alloc (.map #[] 0)).heap.size=w.heap.size+1:=Array.size_push ..
 have hM2:=MapC.made w
 generalize w.alloc (.map #[] 0)=w1 at hb1 hs1 hM2
 intro g5 w3 h5
 have hg5:g5=w.heap.size+1:=h5.1.trans hs1
 have hb3:Below w.heap.size w w3:=hb1.trans (h5.below.mono (by omega))
 have hs3:=h5.blk.lt
 have hblt:=hM.lt
 have hgclt:=hB.lt
 refine⟨_,(((hB.of_eq (hb3.block _ hgclt)).cell 1)).trans rfl,?_⟩
 rw [hk1] at hM
 obtain⟨w2,hr1,hr2,hr3⟩:=mapC_one (hM.eq (hb3.block _ hblt)) hx hf
 refine⟨_,_,hr1,?_⟩
 have hrn:w.heap.size+2<=w3.heap.size:=by omega
 have hb2s:=hr2.size
 have hrlt:w3.heap.size<w2.heap.size:=hr3.2.2.2.2.elim fun D h=>by
  obtain⟨left,cnt,h,_⟩:=h
  exact h.lt
 have hc:tearI gc b w3.heap.size w.heap.size C x s n w3.heap[b]? w2 (fun y=>y=b\/y=w3.heap.size\/y=w.heap.size\/y=g5) g5 true w2:=by
  refine⟨fun y=>y<w2.heap.size/\y≠g5,CtxF.enter (fun y hy=>hy.1) ⟨Nat.zero_le _,fun h=>h.2 rfl,h5.blk.of_eq (hr2.block _ hs3),(fun y hy=>by cases hy),trivial⟩ trivial
   ⟨fun y=>(y<w2.heap.size/\y≠g5)/\y≠w.heap.size,fun y=>y=w.heap.size,fun y hy=>⟨hy.1,hy.2⟩,fun y hy=>⟨⟨by omega,by omega⟩,Nat.zero_le _⟩,
    ⟨fun y=>y<w2.heap.size/\¬ (y=b\/y=w3.heap.size\/y=w.heap.size\/y=g5),fun y=>y=b\/y=w3.heap.size,fun y hy=>⟨⟨⟨hy.1,fun h=>hy.2 (by omega)⟩,fun h=>hy.2 (by omega)⟩,fun h=>hy.2 (by omega)⟩,fun y hy=>⟨⟨⟨by omega,by omega⟩,by omega⟩,Nat.zero_le _⟩,fun y hy hg=>⟨⟨hy,hg⟩,rfl⟩,hr3⟩,rfl,(hM2.eq (h5.below.block _ (by omega))).eq (hr2.block _ (by omega))⟩
   (Sep.stab (Sep.stab (Keep.stab _ _) (RangeK.stab _ _ _ _ _ _)) (MapK.stab _ _ _))⟩
 refine⟨Bool,fun _=>[(0,.pointer (some ⟨gc,0,none⟩)),(1,.int .i64 n),(5,.pointer (some ⟨g5,0,none⟩)),(23,.pointer (some ⟨w3.heap.size,0,none⟩))],
  tearI gc b w3.heap.size w.heap.size C x s n w3.heap[b]? w2 (fun y=>y=b\/y=w3.heap.size\/y=w.heap.size\/y=g5) g5,fun m _=>if m then 1 else 0,true,⟨rfl,rfl,rfl,rfl,trivial⟩,hc,?_⟩
 clear hc
 generalize w3.heap.size=r at*
 rintro more w4 u ⟨S4,hc⟩
 cases more with
 | false=>
  obtain⟨S1,Sa,_,_,⟨S2,Sb,_,_,hkeep,hrk⟩,hmk⟩:=hc.row
  refine⟨_,_,(hrk.next _).1 rfl,?_⟩
  have hl:=hc.leave hkeep
  have hB5:=hc.blk 0 rfl
  have hB5l:=hB5.lt
  refine⟨g5,w.heap.size,rfl,⟨hl.os.trans (hr2.os.trans hb3.os),hl.tape.trans (hr2.tape.trans hb3.tape),hl.output.trans (hr2.output.trans hb3.output),by omega,fun k hk=>?_⟩,.inr ⟨by omega,hB5l⟩,.inr ⟨Nat.le_refl _,hmk.2.lt⟩,by omega,hB5,hmk.2⟩
  by_cases hkb:k=b
  ·rw [hkb]
   exact hrk.2.2.2.1.trans (hb3.block b hblt)
  ·exact (hl.block k (by omega) (by omega)).trans ((hr2.block k (by omega)).trans (hb3.block k hk))
 | true=>
  have hc:CtxF no (bare w2) S4 w4 [(g5,91,chC C.room w.heap.size)] [] (Sep 0 (Sep 0 (Keep w2 (fun y=>y=b\/y=r\/y=w.heap.size\/y=g5)) (RangeK b r x s w3.heap[b]? true)) (MapK w.heap.size 0 (fun _=>none))):=hc
  have hc:=hc.now (X:=Sep 0 (Sep 0 (Keep w2 (fun y=>y=b\/y=r\/y=w.heap.size\/y=g5)) (MapK w.heap.size 0 (fun _=>none))) (RangeK b r x s w3.heap[b]? true)) Sep.swap (Sep.stab (Sep.stab (Keep.stab _ _) (MapK.stab _ _ _)) (RangeK.stab _ _ _ _ _ _))
  obtain⟨S1,Sa,h1,h2,h3,hrk⟩:=hc.row
  obtain⟨w5,hn1,hn2,hn3,hn4,hn5⟩:=(hrk.next 0).2 rfl
  refine⟨_,_,hn1,?_⟩
  refine⟨_,_,hn5,?_⟩
  have hc:=hc.turnO (Sep.stab (Keep.stab _ _) (MapK.stab _ _ _)) h1 h2 h3 (Sn:=Sa) ⟨hn2.os,hn2.tape,hn2.output,fun y hy hg=>hn2.block y hy (fun e=>hg (by rw [Option.some.inj e];exact hrk.2.1))⟩ (fun y hy=>⟨.inl hy,by rw [hn3];exact hc.ctx.lt y (h2 y hy).1⟩) hn4 (RangeK.stab _ _ _ _ _ _)
  have hc:=hc.now (X:=Sep 0 (Sep 0 (Keep w2 (fun y=>y=b\/y=r\/y=w.heap.size\/y=g5)) (RangeK b r x s w3.heap[b]? false)) (MapK w.heap.size 0 (fun _=>none))) Sep.swap (Sep.stab (Sep.stab (Keep.stab _ _) (RangeK.stab _ _ _ _ _ _)) (MapK.stab _ _ _))
  have hle:=tearN_le hp n
  have hw1:IntKind.i64.wrap ((s.s.size:Int)-s.pressed)=(s.s.size:Int)-s.pressed:=IntWalk.i64_in _ ⟨by omega,by omega⟩
  have hw2:IntKind.i64.wrap ((s.s.size:Int)-s.pressed+1)=(s.s.size:Int)-s.pressed+1:=IntWalk.i64_in _ ⟨by omega,by omega⟩
  have hw3:IntKind.i64.wrap (tearN s n)=tearN s n:=IntWalk.i64_in _ ⟨by omega,by omega⟩
  have hw4:IntKind.i64.wrap ((s.s.size:Int)-tearN s n)=(s.s.size:Int)-tearN s n:=IntWalk.i64_in _ ⟨by omega,by omega⟩
  have hw5:IntKind.i64.wrap (C.room+((s.s.size:Int)-tearN s n))=C.room+((s.s.size:Int)-tearN s n):=IntWalk.i64_in _ ⟨by omega,by omega⟩
  refine hc.n fun g7 wg7 hg7 hc=>?_
  refine hc.s 0 rfl fun wS hS hc=>?_
  refine⟨_,hc.cell 0 rfl _ rfl,?_⟩
  refine⟨_,hc.cell 0 rfl _ rfl,?_⟩
  refine⟨_,hc.cell 0 rfl _ rfl,?_⟩
  by_cases hn:0<n
  ·refine split_t (decide_eq_true hn) ?_
   refine vc_nz (by rw [hw1,hw2];omega) ?_
   have hL:IntKind.i64.wrap (s.pressed+n.tmod (IntKind.i64.wrap (IntKind.i64.wrap ((s.s.size:Int)-s.pressed)+1)))=tearN s n:=by
    have e:tearN s n=s.pressed+n.tmod ((s.s.size:Int)-s.pressed+1):=if_pos hn
    rw [hw1,hw2,<-e,hw3]
   refine Drawn.join (α:=Unit) (fun _=>[(0,.pointer (some ⟨gc,0,none⟩)),(1,.int .i64 n),(5,.pointer (some ⟨g5,0,none⟩)),(6,.string x),(7,.pointer (some ⟨g7,0,none⟩)),(9,.int .i64 (tearN s n)),(23,.pointer (some ⟨r,0,none⟩))])
    (fun _ wS=>∃ S,CtxF no (bare w2) S wS [(g7,114,scC s),(g5,91,chC (C.room+((s.s.size:Int)-tearN s n)) w.heap.size)] [] (Sep 0 (Sep 0 (Keep w2 (fun y=>y=b\/y=r\/y=w.heap.size\/y=g5)) (RangeK b r x s w3.heap[b]? false)) (MapK w.heap.size 0 (fun _=>none)))) ?_ ?_
   ·refine vD (.Q [0,1,2,4,7] (.n 3 (.n 5 (.Q [6,8,9,10,11] (.n 12 .fin .stop)) .stop) (.n 5 (.Q [6,8] (.n 3 (.Q [9,10,11] (.n 12 .fin .stop)) .stop)) .stop))) (fun _=>True) trivial ?_
    have hc:=hc.drew
    refine⟨?_,?_⟩
    ·skip
     refine⟨_,hc.cell 1 rfl _ rfl,trivial,?_⟩
     refine⟨⟨_,hc.cell 0 rfl _ rfl,trivial,?_⟩,trivial⟩
     refine⟨hc.s' 1 rfl fun wS hS hc=>?_,trivial⟩
     rw [hL,hw4,hw5] at hc
     exact⟨(),⟨rfl,rfl,rfl,rfl,rfl,congrArg _ hL,rfl,trivial⟩,_,hc⟩
    refine⟨⟨_,hc.cell 0 rfl _ rfl,trivial,?_⟩,trivial⟩
    refine⟨⟨_,hc.cell 1 rfl _ rfl,trivial,?_⟩,trivial⟩
    refine⟨hc.s' 1 rfl fun wS hS hc=>?_,trivial⟩
    rw [hL,hw4,hw5] at hc
    exact⟨(),⟨rfl,rfl,rfl,rfl,rfl,congrArg _ hL,rfl,trivial⟩,_,hc⟩
   clear hc
   rintro⟨⟩ u wS ⟨S,hc⟩
   by_cases hz:0<tearN s n
   ·have e1:(tearC C x s n).f=putF (fun _=>none) x ⟨s.s.extract 0 (tearN s n).toNat,tearN s n,true⟩:=if_pos (.inl hz)
    have e2:(tearC C x s n).k=1:=if_pos (.inl hz)
    refine split_t (decide_eq_true hz) ?_
    have hr:=hc
    refine vD (.Q [0,1,2,3,4,5,6,7,8,9,10] (.z 11)) (Old _) (Old.start _) ?_
    have hk:=hc.old0
    have hc:=hc.drew
    refine⟨_,fun x hx=>Keeps.cell hx (hr.blk 1 rfl) (hr.blk 1 rfl).lt rfl,?_⟩
    refine⟨_,fun x hx=>Keeps.cell hx (hr.blk 0 rfl) (hr.blk 0 rfl).lt rfl,?_⟩
    refine⟨⟨by omega,by omega,by omega⟩,?_⟩
    obtain⟨wm,hm1,hm2,_,hm3⟩:=hc.mapOf.store hx (by decide) ⟨s.s.extract 0 (tearN s n).toNat,tearN s n,true⟩
    refine⟨wm,hm1,?_⟩
    obtain⟨S',hc⟩:=hc.mapc (Sep.stab (Keep.stab _ _) (RangeK.stab _ _ _ _ _ _)) hm2 hm3
    refine⟨false,⟨rfl,rfl,rfl,rfl,trivial⟩,⟨S',?_⟩,by show (0:Nat)<1;decide⟩
    show CtxF no (bare w2) S' _ [(g5,91,chC (tearC C x s n).room w.heap.size)] [] (Sep 0 (Sep 0 _ _) (MapK w.heap.size (tearC C x s n).k (tearC C x s n).f))
    rw [e1,e2]
    exact hc.drop
   by_cases hkp:s.kept=true
   ·have e1:(tearC C x s n).f=putF (fun _=>none) x ⟨s.s.extract 0 (tearN s n).toNat,tearN s n,true⟩:=if_pos (.inr hkp)
    have e2:(tearC C x s n).k=1:=if_pos (.inr hkp)
    refine split_f (decide_eq_false hz) ?_
    refine⟨_,hc.cell 0 rfl _ rfl,?_⟩
    refine split_t hkp ?_
    have hr:=hc
    refine vD (.Q [0,1,2,3,4,5,6,7,8,9,10] (.z 11)) (Old _) (Old.start _) ?_
    have hk:=hc.old0
    have hc:=hc.drew
    refine⟨_,fun x hx=>Keeps.cell hx (hr.blk 1 rfl) (hr.blk 1 rfl).lt rfl,?_⟩
    refine⟨_,fun x hx=>Keeps.cell hx (hr.blk 0 rfl) (hr.blk 0 rfl).lt rfl,?_⟩
    refine⟨⟨by omega,by omega,by omega⟩,?_⟩
    obtain⟨wm,hm1,hm2,_,hm3⟩:=hc.mapOf.store hx (by decide) ⟨s.s.extract 0 (tearN s n).toNat,tearN s n,true⟩
    refine⟨wm,hm1,?_⟩
    obtain⟨S',hc⟩:=hc.mapc (Sep.stab (Keep.stab _ _) (RangeK.stab _ _ _ _ _ _)) hm2 hm3
    refine⟨false,⟨rfl,rfl,rfl,rfl,trivial⟩,⟨S',?_⟩,by show (0:Nat)<1;decide⟩
    show CtxF no (bare w2) S' _ [(g5,91,chC (tearC C x s n).room w.heap.size)] [] (Sep 0 (Sep 0 _ _) (MapK w.heap.size (tearC C x s n).k (tearC C x s n).f))
    rw [e1,e2]
    exact hc.drop
   have e1:(tearC C x s n).f=fun _=>none:=if_neg (fun h=>h.elim hz hkp)
   have e2:(tearC C x s n).k=0:=if_neg (fun h=>h.elim hz hkp)
   refine split_f (decide_eq_false hz) ?_
   refine⟨_,hc.cell 0 rfl _ rfl,?_⟩
   refine split_f (by simpa using hkp) ?_
   refine⟨false,⟨rfl,rfl,rfl,rfl,trivial⟩,⟨S,?_⟩,by show (0:Nat)<1;decide⟩
   show CtxF no (bare w2) S _ [(g5,91,chC (tearC C x s n).room w.heap.size)] [] (Sep 0 (Sep 0 _ _) (MapK w.heap.size (tearC C x s n).k (tearC C x s n).f))
   rw [e1,e2]
   exact hc.drop
  ·refine split_f (decide_eq_false hn) ?_
   have hL:s.pressed=tearN s n:=(if_neg hn).symm
   refine Drawn.join (α:=Unit) (fun _=>[(0,.pointer (some ⟨gc,0,none⟩)),(1,.int .i64 n),(5,.pointer (some ⟨g5,0,none⟩)),(6,.string x),(7,.pointer (some ⟨g7,0,none⟩)),(9,.int .i64 (tearN s n)),(23,.pointer (some ⟨r,0,none⟩))])
    (fun _ wS=>∃ S,CtxF no (bare w2) S wS [(g7,114,scC s),(g5,91,chC (C.room+((s.s.size:Int)-tearN s n)) w.heap.size)] [] (Sep 0 (Sep 0 (Keep w2 (fun y=>y=b\/y=r\/y=w.heap.size\/y=g5)) (RangeK b r x s w3.heap[b]? false)) (MapK w.heap.size 0 (fun _=>none)))) ?_ ?_
   ·refine vD (.Q [0,1,2,4,7] (.n 3 (.n 5 (.Q [6,8,9,10,11] (.n 12 .fin .stop)) .stop) (.n 5 (.Q [6,8] (.n 3 (.Q [9,10,11] (.n 12 .fin .stop)) .stop)) .stop))) (fun _=>True) trivial ?_
    have hc:=hc.drew
    refine⟨?_,?_⟩
    ·skip
     refine⟨_,hc.cell 1 rfl _ rfl,trivial,?_⟩
     refine⟨⟨_,hc.cell 0 rfl _ rfl,trivial,?_⟩,trivial⟩
     refine⟨hc.s' 1 rfl fun wS hS hc=>?_,trivial⟩
     rw [hL,hw4,hw5] at hc
     exact⟨(),⟨rfl,rfl,rfl,rfl,rfl,congrArg _ hL,rfl,trivial⟩,_,hc⟩
    refine⟨⟨_,hc.cell 0 rfl _ rfl,trivial,?_⟩,trivial⟩
    refine⟨⟨_,hc.cell 1 rfl _ rfl,trivial,?_⟩,trivial⟩
    refine⟨hc.s' 1 rfl fun wS hS hc=>?_,trivial⟩
    rw [hL,hw4,hw5] at hc
    exact⟨(),⟨rfl,rfl,rfl,rfl,rfl,congrArg _ hL,rfl,trivial⟩,_,hc⟩
   clear hc
   rintro⟨⟩ u wS ⟨S,hc⟩
   by_cases hz:0<tearN s n
   ·have e1:(tearC C x s n).f=putF (fun _=>none) x ⟨s.s.extract 0 (tearN s n).toNat,tearN s n,true⟩:=if_pos (.inl hz)
    have e2:(tearC C x s n).k=1:=if_pos (.inl hz)
    refine split_t (decide_eq_true hz) ?_
    have hr:=hc
    refine vD (.Q [0,1,2,3,4,5,6,7,8,9,10] (.z 11)) (Old _) (Old.start _) ?_
    have hk:=hc.old0
    have hc:=hc.drew
    refine⟨_,fun x hx=>Keeps.cell hx (hr.blk 1 rfl) (hr.blk 1 rfl).lt rfl,?_⟩
    refine⟨_,fun x hx=>Keeps.cell hx (hr.blk 0 rfl) (hr.blk 0 rfl).lt rfl,?_⟩
    refine⟨⟨by omega,by omega,by omega⟩,?_⟩
    obtain⟨wm,hm1,hm2,_,hm3⟩:=hc.mapOf.store hx (by decide) ⟨s.s.extract 0 (tearN s n).toNat,tearN s n,true⟩
    refine⟨wm,hm1,?_⟩
    obtain⟨S',hc⟩:=hc.mapc (Sep.stab (Keep.stab _ _) (RangeK.stab _ _ _ _ _ _)) hm2 hm3
    refine⟨false,⟨rfl,rfl,rfl,rfl,trivial⟩,⟨S',?_⟩,by show (0:Nat)<1;decide⟩
    show CtxF no (bare w2) S' _ [(g5,91,chC (tearC C x s n).room w.heap.size)] [] (Sep 0 (Sep 0 _ _) (MapK w.heap.size (tearC C x s n).k (tearC C x s n).f))
    rw [e1,e2]
    exact hc.drop
   by_cases hkp:s.kept=true
   ·have e1:(tearC C x s n).f=putF (fun _=>none) x ⟨s.s.extract 0 (tearN s n).toNat,tearN s n,true⟩:=if_pos (.inr hkp)
    have e2:(tearC C x s n).k=1:=if_pos (.inr hkp)
    refine split_f (decide_eq_false hz) ?_
    refine⟨_,hc.cell 0 rfl _ rfl,?_⟩
    refine split_t hkp ?_
    have hr:=hc
    refine vD (.Q [0,1,2,3,4,5,6,7,8,9,10] (.z 11)) (Old _) (Old.start _) ?_
    have hk:=hc.old0
    have hc:=hc.drew
    refine⟨_,fun x hx=>Keeps.cell hx (hr.blk 1 rfl) (hr.blk 1 rfl).lt rfl,?_⟩
    refine⟨_,fun x hx=>Keeps.cell hx (hr.blk 0 rfl) (hr.blk 0 rfl).lt rfl,?_⟩
    refine⟨⟨by omega,by omega,by omega⟩,?_⟩
    obtain⟨wm,hm1,hm2,_,hm3⟩:=hc.mapOf.store hx (by decide) ⟨s.s.extract 0 (tearN s n).toNat,tearN s n,true⟩
    refine⟨wm,hm1,?_⟩
    obtain⟨S',hc⟩:=hc.mapc (Sep.stab (Keep.stab _ _) (RangeK.stab _ _ _ _ _ _)) hm2 hm3
    refine⟨false,⟨rfl,rfl,rfl,rfl,trivial⟩,⟨S',?_⟩,by show (0:Nat)<1;decide⟩
    show CtxF no (bare w2) S' _ [(g5,91,chC (tearC C x s n).room w.heap.size)] [] (Sep 0 (Sep 0 _ _) (MapK w.heap.size (tearC C x s n).k (tearC C x s n).f))
    rw [e1,e2]
    exact hc.drop
   have e1:(tearC C x s n).f=fun _=>none:=if_neg (fun h=>h.elim hz hkp)
   have e2:(tearC C x s n).k=0:=if_neg (fun h=>h.elim hz hkp)
   refine split_f (decide_eq_false hz) ?_
   refine⟨_,hc.cell 0 rfl _ rfl,?_⟩
   refine split_f (by simpa using hkp) ?_
   refine⟨false,⟨rfl,rfl,rfl,rfl,trivial⟩,⟨S,?_⟩,by show (0:Nat)<1;decide⟩
   show CtxF no (bare w2) S _ [(g5,91,chC (tearC C x s n).room w.heap.size)] [] (Sep 0 (Sep 0 _ _) (MapK w.heap.size (tearC C x s n).k (tearC C x s n).f))
   rw [e1,e2]
   exact hc.drop
set_option maxRecDepth 100000
def z49:List UInt8:=List.replicate 49 0
theorem make49 (w:World):∃ w',(Instr.makeSlice 181 (.int .i64 49) (.int .i64 49)).run Tryz.prog w=.ok (.slice (some ⟨w.heap.size,0,none⟩) 49 49) w'/\Below w.heap.size w w'/\Row (fun b=>b=w.heap.size) w' (some ⟨w.heap.size,0,none⟩) 49 49 (bv z49):=by
 obtain⟨ti,hi,hz,hsz,hby⟩:=info_parts info_u8
 have h:=run_makeSlice (w:=w) 181 5 ti _ Tryz.underlying181 hi hz .i64 .i64 49 49 (by decide) (by decide) (by rw [hsz];decide) (by rw [hby];decide) (by decide)
 refine⟨_,h,(Below.refl _ _).alloc (Nat.le_refl _) _,by decide,by decide,fun _=>⟨_,rfl,rfl,fun j u hj=>?_⟩⟩
 have ea:Go.madeCells (Value.int .u8 0).cells ((49:Int).toNat*ti.size)=(bv z49).toArray:=by
  rw [hsz]
  exact Array.toList_inj.1 ((toList_madeCells_one (.int .u8 0) 49).trans (by kernel_rfl))
 rw [ea]
 have hB:Blk (w.alloc (.cells (bv z49).toArray 5)) w.heap.size 5 (bv z49):=(MapKept.heap_alloc w _).1
 rw [Addr.add_lit,Nat.zero_add,hB.cell]
 exact hj
def bA:ByteArray:=⟨#[65]⟩
def bB:ByteArray:=⟨#[66]⟩
def c3f (x:ByteArray) (s:Scroll):ByteArray->Option Scroll:=putF (fun _=>none) x s
def c30:Chest:=⟨50,fun _=>none,0⟩
def s31:Scroll:=⟨⟨#[]⟩++⟨#[120,121,122]⟩,0,false⟩
def c31:Chest:=⟨47,c3f bA s31,1⟩
def c32:Chest:=⟨47,putF c31.f bA ⟨s31.s,s31.s.size,true⟩,1⟩
def s33:Scroll:=⟨s31.s.extract 0 2,2,true⟩
def c33:Chest:=⟨48,putF c32.f bA s33,1⟩
def c34:Chest:=⟨48,putF (delF c33.f bA) bB s33,1⟩
theorem new3:newC 50=c30:=by kernel_rfl
theorem wr31:writeC c30 bA ⟨#[120,121,122]⟩=(c31,0):=by kernel_rfl
theorem wr32:writeC c31 ⟨#[97]⟩ ⟨#[]⟩=(c31,1):=by kernel_rfl
theorem f31:c31.f bA=some s31:=by kernel_rfl
theorem pr3:pressC c31 bA=(c32,0):=by kernel_rfl
theorem cu3:cutCh c32 bA 2=(c33,0):=by kernel_rfl
theorem ca3:callCh c33 bA bB=(c34,0):=by kernel_rfl
theorem f34:c34.f bB=some s33:=by kernel_rfl
theorem t1:((tearC c31 bA s31 2).f bA).getD sc0=⟨⟨#[120,121]⟩,2,true⟩/\((tearC c31 bA s31 2).f bA).isSome=true:=⟨by kernel_rfl,by kernel_rfl⟩
theorem t2:((tearC c31 bA s31 0).f bA).isSome=false:=by kernel_rfl
theorem t3:((tearC c34 bB s33 (-1)).f bB).getD sc0=⟨⟨#[120,121]⟩,2,true⟩/\((tearC c34 bB s33 (-1)).f bB).isSome=true:=⟨by kernel_rfl,by kernel_rfl⟩
theorem wr34 (t:ByteArray) (h:t.size=49):writeC c34 ⟨#[67]⟩ t=(c34,5):=by
 have e:nameB ⟨#[67]⟩=true:=by kernel_rfl
 unfold writeC
 rw [e,if_pos rfl,h]
 rfl
set_option maxHeartbeats 4000000 in
theorem begun3_any (w:World) (hw0:Env w):Calls Tryz.prog 144 #[] w (RetB (.bool true) w):=by
 refine vE Tryz.func144 ?_
 have hc:=CtxF.start w no (fun _ h=>h.elim) (R:=fun _ _=>True) trivial Stab.true
 refine⟨(new_any 50 _).mono fun en wq hq=>?_⟩
 rw [new3] at hq
 obtain⟨gc,b,e1,hq,hO⟩:=hq
 have hc:=hc.sepNew hq hO (ChestK.stab _ _ _)
 refine⟨_,e1,?_⟩
 have hw:=fun Sa w hK=>write_any gc b c30 bA ⟨#[120,121,122]⟩ (by decide) ⟨by decide,by decide⟩ (by decide) (by decide) (by decide) Sa w hK
 rw [wr31] at hw
 obtain⟨S1,Sa,h1,h2,h3,hO⟩:=hc.row
 refine⟨(hw Sa _ hO).mono fun en wq hq=>?_⟩
 obtain⟨e1,hT,Sn,hSn,hO⟩:=hq
 have hc:=hc.turnO (Stab.true) h1 h2 h3 hT hSn hO (ChestK.stab _ _ _)
 refine⟨_,e1,?_⟩
 have hw:=fun Sa w hK=>write_any gc b c31 ⟨#[97]⟩ ⟨#[]⟩ (by decide) ⟨by decide,by decide⟩ (by decide) (by decide) (by decide) Sa w hK
 rw [wr32] at hw
 obtain⟨S1,Sa,h1,h2,h3,hO⟩:=hc.row
 refine⟨(hw Sa _ hO).mono fun en wq hq=>?_⟩
 obtain⟨e1,hT,Sn,hSn,hO⟩:=hq
 have hc:=hc.turnO (Stab.true) h1 h2 h3 hT hSn hO (ChestK.stab _ _ _)
 refine⟨_,e1,?_⟩
 refine⟨(tear_any gc b c31 bA s31 (by decide) f31 rfl ⟨by decide,by decide⟩ (by decide) ⟨by decide,by decide⟩ 2 _ _ (hc.row.right (ChestK.stab _ _ _))).mono fun en wq hq=>?_⟩
 obtain⟨g2,b2,e1,hq,hO2⟩:=hq
 have hc:=(hc.quiet hq).1
 refine⟨_,e1,?_⟩
 have hrd:=read_any g2 b2 (tearC c31 bA s31 2) bA (by decide) _ _ hO2
 rw [t1.1,t1.2] at hrd
 refine hc.q (hrd) fun wQ hQ hc=>?_
 refine⟨(tear_any gc b c31 bA s31 (by decide) f31 rfl ⟨by decide,by decide⟩ (by decide) ⟨by decide,by decide⟩ 0 _ _ (hc.row.right (ChestK.stab _ _ _))).mono fun en wq hq=>?_⟩
 obtain⟨g2,b2,e1,hq,hO2⟩:=hq
 have hc:=(hc.quiet hq).1
 refine⟨_,e1,?_⟩
 have hrd:=read_any g2 b2 (tearC c31 bA s31 0) bA (by decide) _ _ hO2
 rw [t2] at hrd
 refine hc.q (hrd) fun wQ hQ hc=>?_
 have hw:=fun Sa w hK=>press_any gc b c31 bA (by decide) (by decide) Sa w hK
 rw [pr3] at hw
 obtain⟨S1,Sa,h1,h2,h3,hO⟩:=hc.row
 refine⟨(hw Sa _ hO).mono fun en wq hq=>?_⟩
 obtain⟨e1,hT,Sn,hSn,hO⟩:=hq
 have hc:=hc.turnO (Stab.true) h1 h2 h3 hT hSn hO (ChestK.stab _ _ _)
 refine⟨_,e1,?_⟩
 have hw:=fun Sa w hK=>cut2_any gc b c32 bA 2 (by decide) ⟨by decide,by decide⟩ (by decide) (by decide) Sa w hK
 rw [cu3] at hw
 obtain⟨S1,Sa,h1,h2,h3,hO⟩:=hc.row
 refine⟨(hw Sa _ hO).mono fun en wq hq=>?_⟩
 obtain⟨e1,hT,Sn,hSn,hO⟩:=hq
 have hc:=hc.turnO (Stab.true) h1 h2 h3 hT hSn hO (ChestK.stab _ _ _)
 refine⟨_,e1,?_⟩
 have hw:=fun Sa w hK=>call_any gc b c33 bA bB (by decide) (by decide) ⟨by decide,by decide⟩ (by decide) (by decide) Sa w hK
 rw [ca3] at hw
 obtain⟨S1,Sa,h1,h2,h3,hO⟩:=hc.row
 refine⟨(hw Sa _ hO).mono fun en wq hq=>?_⟩
 obtain⟨e1,hT,Sn,hSn,hO⟩:=hq
 have hc:=hc.turnO (Stab.true) h1 h2 h3 hT hSn hO (ChestK.stab _ _ _)
 refine⟨_,e1,?_⟩
 refine⟨(tear_any gc b c34 bB s33 (by decide) f34 rfl ⟨by decide,by decide⟩ (by decide) ⟨by decide,by decide⟩ (-1) _ _ (hc.row.right (ChestK.stab _ _ _))).mono fun en wq hq=>?_⟩
 obtain⟨g2,b2,e1,hq,hO2⟩:=hq
 have hc:=(hc.quiet hq).1
 refine⟨_,e1,?_⟩
 have hrd:=read_any g2 b2 (tearC c34 bB s33 (-1)) bB (by decide) _ _ hO2
 rw [t3.1,t3.2] at hrd
 refine hc.q (hrd) fun wQ hQ hc=>?_
 refine hc.q (Begun1_any _ (hw0.below hc.below)) fun wQ hQ hc=>?_
 have hpr:=pressed_any gc b c34 bB (by decide) _ _ (hc.row.right (ChestK.stab _ _ _))
 rw [f34] at hpr
 refine hc.q (hpr) fun wQ hQ hc=>?_
 refine hc.q (room_any gc b c34 _ _ (hc.row.right (ChestK.stab _ _ _))) fun wQ hQ hc=>?_
 obtain⟨wm,hm1,hm2,hm3⟩:=make49 wQ
 refine⟨_,wm,hm1,?_⟩
 have hc:=(hc.quiet hm2).1
 refine bytes_str (l:=z49) Tryz.underlying181 Tryz.underlying5 Tryz.underlying9 hm3 rfl ?_
 have hw:=fun Sa w hK=>write_any gc b c34 ⟨#[67]⟩ ⟨z49.toArray⟩ (by decide) ⟨by decide,by decide⟩ (by decide) (by decide) (by decide) Sa w hK
 rw [wr34 _ rfl] at hw
 obtain⟨S1,Sa,h1,h2,h3,hO⟩:=hc.row
 refine⟨(hw Sa _ hO).mono fun en wq hq=>?_⟩
 obtain⟨e1,hT,Sn,hSn,hO⟩:=hq
 have hc:=hc.turnO (Stab.true) h1 h2 h3 hT hSn hO (ChestK.stab _ _ _)
 refine⟨_,e1,?_⟩
 exact⟨rfl,hc.below⟩
theorem Begun3_any (w:World) (hw0:Env w):Calls Tryz.prog 100 #[] w (RetB (.bool true) w):=by
 refine vE Tryz.func100 ?_
 refine call_b (begun3_any w hw0) ?_
 intro w1 h1
 exact⟨rfl,h1⟩
set_option maxRecDepth 100000
def markL (s:List UInt8):List UInt8:=zText (zOn (0,1) s)
def leafL (s:ByteArray):List UInt8:=if (400000:Int)<(s.size:Int) then [] else markL s.data.toList++putS (vStr s)
theorem putS_le (v:V):(putS v).length<=(putV v).length:=by
 unfold putS
 split
 ·exact Nat.le_refl _
 ·exact Nat.zero_le _
theorem hex4_len (n:Int):(hex4 n).length=4:=by
 simp [hex4]
theorem markL_len (s:List UInt8):(markL s).length=8:=by
 unfold markL zText
 rw [List.length_append,hex4_len,hex4_len]
theorem leaf_any (s:ByteArray) (hs:s.size<=9223372036854775807) (w:World) (hw:Env w):Calls Tryz.prog 71 #[.string s] w (RetB (.string ⟨(leafL s).toArray⟩) w):=by
 refine vE Tryz.func71 ?_
 unfold leafL
 by_cases h:(400000:Int)<(s.size:Int)
 ·rw [if_pos h]
  refine split_t (decide_eq_true h) ?_
  exact⟨rfl,Below.refl _ _⟩
 rw [if_neg h]
 refine split_f (decide_eq_false h) ?_
 refine str_bytes no Tryz.underlying9 Tryz.underlying181 Tryz.underlying5 hs ?_
 intro g cap w1 h1 hR
 refine call_b (gMark_any (ba_len s).symm hs _ hR) ?_
 intro w2 h2
 refine call_b (gText_any (zOn_ok _ _ ⟨by decide,by decide⟩) _) ?_
 intro w3 h3
 have h12:=h1.trans (h2.mono h1.size)
 have h13:=h12.trans (h3.mono h12.size)
 refine call_b (vput_any (vStr s) ⟨⟨by decide,by decide⟩,trivial⟩ (Nat.le_trans (putV_str s (by omega)) (by omega)) _ _ _ _ _ _ no _ (RepC.leaf _ _ _ _ _) (hw.below h13).tab) ?_
 intro w4 h4
 have h14:=h13.trans (h4.mono h13.size)
 have h5:=putS_le (vStr s)
 have h6:=putV_str s (by omega)
 have h7:=markL_len s.data.toList
 refine⟨?_,?_⟩
 ·show (markL s.data.toList).toArray.size+(putS (vStr s)).toArray.size<=_
  rw [List.size_toArray,List.size_toArray]
  omega
 ·refine⟨?_,h14⟩
  rw [<-ba_append]
  rfl
def markedB (l:List UInt8):Bool:=(zRead (l.take 8++List.replicate (8-l.length) 48)).2
theorem fill_cut (n:Nat) (h:n<=8):((⟨#[48,48,48,48,48,48,48,48]⟩:ByteArray).extract n 8).data.toList=List.replicate (8-n) 48:=by
 have:∀ n:Fin 9,((⟨#[48,48,48,48,48,48,48,48]⟩:ByteArray).extract n.val 8).data.toList=List.replicate (8-n.val) 48:=by decide +kernel
 exact this ⟨n,by omega⟩
theorem cut8 (s:ByteArray) (m:Nat) (hm:m=min 8 s.size):(s.extract 0 m++(⟨#[48,48,48,48,48,48,48,48]⟩:ByteArray).extract m 8).data.toList=s.data.toList.take 8++List.replicate (8-s.data.toList.length) 48:=by
 have hl:s.data.toList.length=s.size:=ba_len s
 have e0:s.extract 0 m=⟨((s.data.toList.drop 0).take (m-0)).toArray⟩:=ba_extract s.data.toList 0 m
 rw [ByteArray.data_append,Array.toList_append,fill_cut m (by omega),e0,hl]
 show (s.data.toList.drop 0).take (m-0)++_=_
 rw [List.drop_zero,Nat.sub_zero,show 8-m=8-s.size from by omega]
 congr 1
 rcases Nat.lt_or_ge s.size 8 with h | h
 ·rw [List.take_of_length_le (by omega),List.take_of_length_le (by omega)]
 ·rw [show m=8 from by omega]
theorem marked_any (s:ByteArray) (hs:s.size<=1000000000000) (w:World):Calls Tryz.prog 118 #[.string s] w (RetB (.bool (markedB s.data.toList)) w):=by
 obtain⟨m,hm,hm8⟩:∃ m:Nat,(if (8:Int)<(s.size:Int) then 8 else (s.size:Int))=(m:Int)/\m=min 8 s.size:=⟨min 8 s.size,by split<;>omega,rfl⟩
 have hsz:(s.extract ((0:Nat):Int).toNat (if (8:Int)<(s.size:Int) then 8 else (s.size:Int)).toNat).size=m:=by
  rw [hm,ByteArray.size_extract]
  omega
 have hg:=fun w=>gread_any (s.extract 0 m++(⟨#[48,48,48,48,48,48,48,48]⟩:ByteArray).extract m 8) w
 rw [cut8 s m hm8] at hg
 have e1:s.extract 0 m=s.extract ((0:Nat):Int).toNat (if (8:Int)<(s.size:Int) then 8 else (s.size:Int)).toNat:=by rw [hm];rfl
 rw [e1] at hg
 have e2:((s.extract ((0:Nat):Int).toNat (if (8:Int)<(s.size:Int) then 8 else (s.size:Int)).toNat).size:Int).toNat=m:=by rw [hsz];exact Int.toNat_natCast m
 rw [<-e2] at hg
 refine vE Tryz.func118 ?_
 refine⟨⟨Int.le_refl _,by rw [hm];omega,by rw [hm];omega⟩,?_⟩
 refine⟨⟨Int.natCast_nonneg _,by rw [hsz];show (m:Int)<=8;omega,Int.le_refl _⟩,?_⟩
 have h8:(⟨#[48,48,48,48,48,48,48,48]⟩:ByteArray).size=8:=rfl
 refine⟨by simp only [ByteArray.size_extract,h8];omega,?_⟩
 refine call_b (hg _) ?_
 intro w1 h1
 exact⟨rfl,h1⟩
end Go.Proofs.YtokglimimnelaaaGreatDoor
section
namespace Go.Vc
open Go Go.RowKit
open Go.Proofs.YtokglimimnelaaaGreatDoor (no RetOb Env)
set_option maxRecDepth 100000
def ObjK (g T:Nat) (cs:List Value) (R O:Kn):Kn:=fun S w=>S g/\Blk w g T cs/\Sep 0 R O (fun x=>S x/\x≠g) w
theorem ObjK.stab {g T:Nat} {cs:List Value} {R O:Kn} (hR:Stab R) (hO:Stab O):Stab (ObjK g T cs R O):=fun S w S' w' h f=>
 ⟨f.1 _ h.1,h.2.1.of_eq (f.2 _ h.1),Sep.stab hR hO _ _ _ _ h.2.2 ⟨fun x hx=>⟨f.1 x hx.1,hx.2⟩,fun x hx=>f.2 x hx.1⟩⟩
theorem ObjK.right {g T:Nat} {cs:List Value} {R O:Kn} (hO:Stab O) {S:Nat->Prop} {w:World} (h:ObjK g T cs R O S w):O S w:=
 hO _ _ _ _ (h.2.2.right hO) ⟨fun x hx=>hx.1,fun _ _=>rfl⟩
theorem ObjK.left {g T:Nat} {cs:List Value} {R O:Kn} (hR:Stab R) {S:Nat->Prop} {w:World} (h:ObjK g T cs R O S w):R S w:=
 hR _ _ _ _ (h.2.2.left hR) ⟨fun x hx=>hx.1,fun _ _=>rfl⟩
section
variable {w0 w w':World} {S Sa:Nat->Prop} {l:List LB} {os:List OR} {R O K X Y:Kn} {g T n0:Nat} {cs cs':List Value}
theorem ObjK.enter (h:ObjK g T cs R O Sa w) (hlt:∀ x,Sa x->x<w.heap.size) (hR:Stab R) (hO:Stab O):
  CtxF no (bare w) (fun x=>x<w.heap.size/\x≠g) w [(g,T,cs)] [] (Sep 0 (Sep 0 (Keep w Sa) R) O):=by
 obtain⟨h1,h2,Sr,So,k1,k2,k3,k4⟩:=h
 refine CtxF.enter (fun x hx=>hx.1) ⟨Nat.zero_le _,fun h=>h.2 rfl,h2,(fun x hx=>by cases hx),trivial⟩ trivial ⟨fun x=>x<w.heap.size/\¬ So x/\x≠g,So,fun x hx=>⟨⟨hx.1,hx.2.2⟩,hx.2.1⟩,fun x hx=>⟨⟨hlt x (k2 x hx).1.1,(k2 x hx).1.2⟩,Nat.zero_le _⟩,⟨fun x=>x<w.heap.size/\¬ Sa x,Sr,fun x hx=>⟨⟨hx.1,fun e=>hx.2 (k2 x e).1.1,fun e=>hx.2 (e▸h1)⟩,fun e=>hx.2 (k1 x e).1.1⟩,fun x hx=>⟨⟨hlt x (k1 x hx).1.1,(k1 x hx).2,(k1 x hx).1.2⟩,Nat.zero_le _⟩,fun x hx hg=>⟨⟨hx,hg⟩,rfl⟩,k3⟩,k4⟩ (Sep.stab (Sep.stab (Keep.stab _ _) hR) hO)
theorem ObjK.leave (hc:CtxF no (bare w) S w' [(g,T,cs')] [] (Sep 0 (Sep 0 (Keep w Sa) R) O)) (v:Value):RetOb Sa w v (ObjK g T cs' R O) (Ending.returned v) w':=by
 obtain⟨S1,So,h1,h2,⟨Sk,Sr,k1,k2,k3,k4⟩,h4⟩:=hc.row
 have hSg:¬ S g:=hc.ctx.locs.2.1
 have hr:∀ x,Sr x->S x:=fun x hx=>(h1 x (k2 x hx).1).1
 refine⟨rfl,hc.leave k3,fun x=>x=g\/Sr x\/So x,fun x hx=>?_,.inl rfl,hc.blk 0 rfl,Sr,So,fun x hx=>⟨⟨.inr (.inl hx),fun e=>hSg (e▸hr x hx)⟩,(h1 x (k2 x hx).1).2⟩,fun x hx=>⟨⟨.inr (.inr hx),fun e=>hSg (e▸(h2 x hx).1)⟩,Nat.zero_le _⟩,k4,h4⟩
 have hout:(Sk x->False)->Sa x\/w.heap.size<=x:=fun hn=>by
  rcases Nat.lt_or_ge x w.heap.size with hl | hl
  ·rcases Classical.em (Sa x) with hs | hs
   ·exact .inl hs
   ·exact (hn (k3 x hl hs).1).elim
  ·exact .inr hl
 rcases hx with rfl | hx | hx
 ·exact⟨hout fun hk=>hSg (h1 _ (k1 _ hk).1).1,(hc.blk 0 rfl).lt⟩
 ·exact⟨hout fun hk=>(k1 x hk).2 hx,hc.ctx.lt x (hr x hx)⟩
 ·exact⟨hout fun hk=>(h1 x (k1 x hk).1).2 hx,hc.ctx.lt x (h2 x hx).1⟩
theorem CtxF.again {w1:World} (hc:CtxF no (bare w) S w1 [(g,T,cs)] [] (Sep 0 (Sep 0 (Keep w Sa) R) O)):
  ∃ Sm:Nat->Prop,(∀ x,Sm x->x<w1.heap.size)/\(∀ x,x<w.heap.size->¬ Sa x->¬ Sm x/\w1.heap[x]?=w.heap[x]?)/\ObjK g T cs R O Sm w1/\∀ {w2:World} {cs':List Value} {R' O':Kn} {Sn:Nat->Prop},Turn Sm w1 w2->(∀ x,Sn x->(Sm x\/w1.heap.size<=x)/\x<w2.heap.size)->ObjK g T cs' R' O' Sn w2->Stab R'->Stab O'->
   ∃ S2,CtxF no (bare w) S2 w2 [(g,T,cs')] [] (Sep 0 (Sep 0 (Keep w Sa) R') O'):=by
 obtain⟨S1,So,h1,h2,⟨Sk,Sr,k1,k2,k3,k4⟩,h4⟩:=hc.row
 have hSg:¬ S g:=hc.ctx.locs.2.1
 have hr:∀ x,Sr x->S x:=fun x hx=>(h1 x (k2 x hx).1).1
 have hk:∀ x,Sk x->S x/\¬ Sr x/\¬ So x/\x≠g:=fun x hx=>⟨(h1 x (k1 x hx).1).1,(k1 x hx).2,(h1 x (k1 x hx).1).2,fun e=>hSg (e▸(h1 x (k1 x hx).1).1)⟩
 refine⟨fun x=>x=g\/Sr x\/So x,fun x hx=>?_,fun x hx hn=>?_,⟨.inl rfl,hc.blk 0 rfl,Sr,So,fun x hx=>⟨⟨.inr (.inl hx),fun e=>hSg (e▸hr x hx)⟩,(h1 x (k2 x hx).1).2⟩,fun x hx=>⟨⟨.inr (.inr hx),fun e=>hSg (e▸(h2 x hx).1)⟩,Nat.zero_le _⟩,k4,h4⟩,?_⟩
 ·rcases hx with rfl | hx | hx
  ·exact (hc.blk 0 rfl).lt
  ·exact hc.ctx.lt x (hr x hx)
  ·exact hc.ctx.lt x (h2 x hx).1
 ·obtain⟨i1,i2⟩:=k3 x hx hn
  obtain⟨a,b,c,d⟩:=hk x i1
  exact⟨fun e=>e.elim d (fun e=>e.elim b c),i2⟩
 ·intro w2 cs' R' O' Sn hT hSn hO sR sO
  obtain⟨j1,j2,Sr',So',i1,i2,i3,i4⟩:=hO
  have hnk:∀ x,Sk x->¬ Sn x:=fun x hx hn=>by
   obtain⟨a,b,c,d⟩:=hk x hx
   have hl:=hc.ctx.lt x a
   rcases (hSn x hn).1 with (e | e | e) | e
   ·exact d e
   ·exact b e
   ·exact c e
   ·omega
  have hkeep:∀ x,Sk x->w2.heap[x]?=w1.heap[x]?:=fun x hx=>by
   obtain⟨a,b,c,d⟩:=hk x hx
   exact hT.block x (hc.ctx.lt x a) (fun e=>e.elim d (fun e=>e.elim b c))
  have hklt:∀ x,Sk x->x<w2.heap.size:=fun x hx=>heap_lt (hkeep x hx) (hc.ctx.lt x (hk x hx).1)
  refine⟨fun x=>x<w2.heap.size/\x≠g,⟨⟨⟨hT.os.trans hc.below.os,hT.tape.trans hc.below.tape,hT.output.trans hc.below.output,Nat.zero_le _,fun k hk=>absurd hk (Nat.not_lt_zero _)⟩,fun _ h=>h.elim,fun b _=>.inr (Nat.zero_le _),fun x hx=>hx.1,⟨Nat.zero_le _,fun h=>h.2 rfl,j2,(fun x hx=>by cases hx),trivial⟩⟩,trivial,?_,Sep.stab (Sep.stab (Keep.stab _ _) sR) sO⟩⟩
  refine⟨fun x=>x<w2.heap.size/\¬ So' x/\x≠g,So',fun x hx=>⟨⟨hx.1,hx.2.2⟩,hx.2.1⟩,fun x hx=>⟨⟨(hSn x (i2 x hx).1.1).2,(i2 x hx).1.2⟩,Nat.zero_le _⟩,⟨Sk,Sr',fun x hx=>⟨⟨hklt x hx,fun e=>hnk x hx (i2 x e).1.1,(hk x hx).2.2.2⟩,fun e=>hnk x hx (i1 x e).1.1⟩,fun x hx=>⟨⟨(hSn x (i1 x hx).1.1).2,(i1 x hx).2,(i1 x hx).1.2⟩,Nat.zero_le _⟩,Keep.stab _ _ _ _ _ _ k3 ⟨fun _ h=>h,hkeep⟩,i3⟩,i4⟩
theorem CtxF.mid (hc:CtxF no w0 S w l os (Sep w0.heap.size (Sep n0 K R) O)) (hn:n0<=w0.heap.size) (hK:Stab K) (hR:Stab R) (hO:Stab O):
  ∃ Sr:Nat->Prop,R Sr w/\(∀ x,Sr x->S x)/\∀ {w':World} {l':List LB} {R':Kn},CtxF no w0 (ext S w w') w' l' os R'/\Fut S w (ext S w w') w'->∀ {X:Kn},Stab X->X (ext Sr w w') w'->CtxF no w0 (ext S w w') w' l' os (Sep w0.heap.size (Sep n0 K (fun S w=>R S w/\X S w)) O):=by
 obtain⟨S1,So,h1,h2,⟨Sk,Sr,k1,k2,k3,k4⟩,h4⟩:=hc.row
 have hlt:∀ x,S x->x<w.heap.size:=hc.ctx.lt
 have hrS:∀ x,Sr x->S x:=fun x hx=>(h1 x (k2 x hx).1).1
 refine⟨Sr,k4,hrS,fun {w' l' R'} hh {X} hX hx=>?_⟩
 obtain⟨hc',hf⟩:=hh
 have hnew:∀ x,w.heap.size<=x->S x->False:=fun x h1 h2=>absurd (hlt x h2) (by omega)
 refine hc'.now (fun _=>⟨ext S1 w w',So,fun x hx=>?_,fun x hx=>⟨.inl (h2 x hx).1,(h2 x hx).2⟩,⟨Sk,ext Sr w w',fun x hx=>⟨.inl (k1 x hx).1,fun h=>?_⟩,fun x hx=>⟨?_,?_⟩,?_,?_,hx⟩,?_⟩) (Sep.stab (Sep.stab hK (hR.and hX)) hO)
 ·rcases hx with hx | hx
  ·exact⟨.inl (h1 x hx).1,(h1 x hx).2⟩
  ·exact⟨.inr hx,fun h=>hnew x hx.1 (h2 x h).1⟩
 ·rcases h with h | h
  ·exact (k1 x hx).2 h
  ·exact hnew x h.1 (h1 x (k1 x hx).1).1
 ·rcases hx with hx | hx
  ·exact .inl (k2 x hx).1
  ·exact .inr hx
 ·rcases hx with hx | hx
  ·exact (k2 x hx).2
  ·exact Nat.le_trans hn (Nat.le_trans hc.ctx.below.size hx.1)
 ·exact hK _ _ _ _ k3 ⟨fun _ h=>h,fun x hx=>hf.2 x (h1 x (k1 x hx).1).1⟩
 ·exact hR _ _ _ _ k4 ⟨fun _ h=>.inl h,fun x hx=>hf.2 x (hrS x hx)⟩
 ·exact hO _ _ _ _ h4 ⟨fun _ h=>h,fun x hx=>hf.2 x (h2 x hx).1⟩
theorem CtxF.turnL (hc:CtxF no w0 S w l os R) (k:Nat) (hk:l[k]?=some (g,T,cs)) (hT:Turn (fun x=>x=g) w w') (hB:Blk w' g T cs'):
  CtxF no w0 (ext S w w') w' (setLoc l k cs') os R/\Fut S w (ext S w w') w':=by
 have hgl:g<w.heap.size:=(hc.blk k hk).lt
 have hsz:w.heap.size<=w'.heap.size:=by
  by_cases e:g=w.heap.size-1
  ·have:=hB.lt
   omega
  ·have:=heap_lt (hT.block (w.heap.size-1) (by omega) (fun h=>e h.symm)) (by omega)
   omega
 have hg:w.grownBy w' (some g):=⟨hT.os,hT.tape,hT.output,hsz,fun x hx hn=>hT.block x hx (fun e=>hn (by rw [e]))⟩
 obtain⟨h1,h2⟩:=hc.ctx.turned k hk hg hB
 have hlow:∀ x∈setLoc l k cs',x.1<w.heap.size:=fun x hx=>by
  obtain⟨y,hy,e⟩:=setLoc_mem hx
  rw [<-e]
  exact hc.ctx.locs.lt y hy
 have hf:Fut S w (ext S w w') w':=⟨fun x hx=>.inl hx,h2.2⟩
 refine⟨⟨⟨h1.below,fun _ h=>h.elim,fun x hx=>?_,fun x hx=>?_,h1.locs.mono (fun _ _=>rfl) (fun x hx hs=>?_)⟩,hc.own.step fun o ho a ha=>?_,hc.stab _ _ _ _ hc.row hf,hc.stab⟩,hf⟩
 ·rcases hx with hx | hx
  ·exact h1.new x hx
  ·exact .inr (Nat.le_trans hc.ctx.below.size hx.1)
 ·rcases hx with hx | hx
  ·exact h1.lt x hx
  ·exact hx.2
 ·rcases hs with hs | hs
  ·exact hs
  ·have:=hlow x hx
   omega
 ·have hO:=hc.own.mem o ho
  refine⟨hT.block _ (hO.lt ha).2 (fun e=>(hO.out a ha).2 _ (List.mem_of_getElem? hk) e.symm),fun hs=>?_,fun x hx=>?_⟩
  ·rcases hs with hs | hs
   ·exact (hO.out a ha).1 hs
   ·have:=(hO.lt ha).2
    omega
  ·obtain⟨y,hy,e⟩:=setLoc_mem hx
   rw [<-e]
   exact (hO.out a ha).2 y hy
end
def isG (x:Nat):Prop:=Go.Proofs.Tryz.prog.globalNamed "internal/strconv.uint64pow10"=some x\/Go.Proofs.Tryz.prog.globalNamed "strconv.ErrSyntax"=some x\/Go.Proofs.Tryz.prog.globalNamed "strconv.ErrRange"=some x
theorem var_lt {w:World} {n:String} {v:Array Value} (h:w.var? Go.Proofs.Tryz.prog n=some v) {x:Nat} (hx:Go.Proofs.Tryz.prog.globalNamed n=some x):x<w.heap.size:=by
 unfold World.var? at h
 rw [hx,Option.bind_some] at h
 rcases Nat.lt_or_ge x w.heap.size with hl | hl
 ·exact hl
 ·rw [Array.getElem?_eq_none hl] at h;cases h
theorem var_of {w w':World} {n:String} {v:Array Value} (h:w.var? Go.Proofs.Tryz.prog n=some v) (hk:∀ x,Go.Proofs.Tryz.prog.globalNamed n=some x->w'.heap[x]?=w.heap[x]?):w'.var? Go.Proofs.Tryz.prog n=some v:=by
 unfold World.var? at*
 cases hg:Go.Proofs.Tryz.prog.globalNamed n with
 | none=>simp [hg] at h
 | some g=>
  simp only [hg,Option.bind_some] at h ⊢
  rw [hk g hg]
  exact h
theorem _root_.Go.Proofs.YtokglimimnelaaaGreatDoor.Env.lt {w:World} (h:Env w) (x:Nat) (hx:isG x):x<w.heap.size:=by
 rcases hx with hx | hx | hx
 ·exact var_lt h.tab hx
 ·obtain⟨a,b,c⟩:=h.syn
  exact var_lt c hx
 ·obtain⟨a,b,c⟩:=h.rng
  exact var_lt c hx
theorem _root_.Go.Proofs.YtokglimimnelaaaGreatDoor.Env.of {w w':World} (h:Env w) (hk:∀ x,isG x->w'.heap[x]?=w.heap[x]?):Env w':=by
 obtain⟨a1,b1,c1⟩:=h.syn
 obtain⟨a2,b2,c2⟩:=h.rng
 exact⟨var_of h.tab fun x hx=>hk x (.inl hx),⟨a1,b1,var_of c1 fun x hx=>hk x (.inr (.inl hx))⟩,⟨a2,b2,var_of c2 fun x hx=>hk x (.inr (.inr hx))⟩⟩
def EnvFree (G:Nat->Prop) (w:World):Prop:=Env w/\∀ x,isG x->¬ G x
theorem _root_.Go.Proofs.YtokglimimnelaaaGreatDoor.Env.free {w0 w:World} {G:Nat->Prop} {X:Nat->Prop} (h:Env w0) (hb:Below w0.heap.size w0 w) (hG:∀ x,G x->X x/\w0.heap.size<=x):EnvFree G w:=
 ⟨h.below hb,fun x hx hg=>absurd (h.lt x hx) (Nat.not_lt.2 (hG x hg).2)⟩
theorem EnvFree.kept {G G':Nat->Prop} {w w':World} (h:EnvFree G w) (hk:∀ x,x<w.heap.size->¬ G x->¬ G' x/\w'.heap[x]?=w.heap[x]?):EnvFree G' w':=
 ⟨h.1.of fun x hx=>(hk x (h.1.lt x hx) (h.2 x hx)).2,fun x hx=>(hk x (h.1.lt x hx) (h.2 x hx)).1⟩
theorem EnvFree.sub {G S1 S Sa:Nat->Prop} {w w1:World} {R:Kn} (h:EnvFree G w) (h3:Sep 0 (Keep w G) R S1 w1) (h1:∀ x,S1 x->S x/\¬ Sa x):EnvFree Sa w1:=by
 obtain⟨Sk,Sr,k1,k2,k3,k4⟩:=h3
 exact h.kept fun x hx hg=>⟨(h1 x (k1 x (k3 x hx hg).1).1).2,(k3 x hx hg).2⟩
theorem EnvFree.now {G S:Nat->Prop} {w w1:World} {l:List LB} {os:List OR} {R O:Kn} (h:EnvFree G w) (hc:CtxF no (bare w) S w1 l os (Sep 0 (Sep 0 (Keep w G) R) O)):Env w1:=by
 obtain⟨S1,So,h1,h2,h3,h4⟩:=hc.row
 exact (h.sub h3 h1).1
def RecK (e:Nat) (A:Option Addr) (n cap:Nat) (xs:List Value):Kn:=fun S w=>xs.length=n/\n<=cap/\cap<=maxLen/\(A=none/\cap=0\/∃ g o cur,A=some ⟨g,o,none⟩/\S g/\Blk w g e cur/\o+cap<=cur.length/\(cur.drop o).take n=xs)
theorem RecK.stab (e:Nat) (A:Option Addr) (n cap:Nat) (xs:List Value):Stab (RecK e A n cap xs):=fun S w S' w' h f=>⟨h.1,h.2.1,h.2.2.1,h.2.2.2.elim .inl fun ⟨g,o,cur,h1,h2,h3,h4⟩=>.inr ⟨g,o,cur,h1,f.1 _ h2,h3.of_eq (f.2 _ h2),h4⟩⟩
theorem RecK.nil (e:Nat) (S:Nat->Prop) (w:World):RecK e none 0 0 [] S w:=⟨rfl,Nat.le_refl _,Nat.zero_le _,.inl ⟨rfl,rfl⟩⟩
theorem RecK.row {e n cap:Nat} {A:Option Addr} {xs:List Value} {S:Nat->Prop} {w:World} (h:RecK e A n cap xs S w):Row S w A n cap xs:=by
 obtain⟨h1,h2,h3,h4⟩:=h
 refine⟨h2,h3,fun hx=>?_⟩
 rcases h4 with ⟨_,h4⟩ | ⟨g,o,cur,rfl,hs,hB,hl,ht⟩
 ·exact absurd (List.eq_nil_of_length_eq_zero (by omega)) hx
 ·refine⟨_,rfl,hs,fun j u hu=>?_⟩
  rw [Addr.add_lit,hB.cell]
  rw [<-ht,List.getElem?_take] at hu
  split at hu
  ·rw [List.getElem?_drop] at hu
   exact hu
  ·cases hu
theorem cells_of {w:World} {ad:Addr}:∀ (ys:List Value) (i:Nat),cellsAt w ad ys i->∀ j u,ys[j]?=some u->w.cell? (ad.add (i+j))=some u
 | [],_,_,j,u,h=>by cases h
 | v::r,i,h,j,u,hu=>by
  cases j with
  | zero=>cases hu;exact h.1
  | succ j=>rw [show i+(j+1)=i+1+j from by omega];exact cells_of r (i+1) h.2 j u hu
theorem app_rec {P:Program} {w0 w:World} {S:Nat->Prop} {l:List LB} {os:List OR} {R:Kn} {e t T n cap m c bytes:Nat} {A:Option Addr} {cs:Array Bool} {xs ys:List Value} {z:Value} {K:Value->World->Prop}
  (ht:P.underlying t=some (.slice e)) (hi:(P.info? e).map (fun i=>(i.zero,i.size,i.bytes))=some (some z,1,bytes)) (hzs:z.cells.size=1)
  (hc:CtxF no w0 S w l os (Sep w0.heap.size R (RecK e A n cap xs))) (hR:Stab R) {ad:Addr} (hy:cellsAt w ad ys 0) (hl:ys.length=m) (hm:0<m) (h1:allOne ys=true) (h63:n+m<=34359738368) (hby:bytes<=4096)
  (k:∀ A' cap' w' S',CtxF no w0 S' w' l os (Sep w0.heap.size R (RecK e A' (n+m) cap' (xs++ys)))->K (.slice A' (n+m) cap') w'):
  ∃ v w',(builtin .append #[t,t] T cs #[.slice A n cap,.slice (some ad) m c]).run P w=.ok (.value v) w'/\K v w':=by
 obtain⟨i,h2,h3,h4,h5⟩:=info_parts hi
 have hnews:∀ j u,ys[j]?=some u->w.cell? (ad.add j)=some u:=fun j u hu=>by have:=cells_of ys 0 hy j u hu;rwa [Nat.zero_add] at this
 have hl':ys.length=m*i.size:=by rw [h4,hl,Nat.mul_one]
 have hmax:n+m<=maxLen:=Nat.le_trans h63 (by decide)
 have hbytes:(n+m)*i.bytes<=140737488355328:=by rw [h5];exact Nat.le_trans (Nat.mul_le_mul h63 hby) (by decide)
 obtain⟨S1,Sa,r1,r2,r3,hk1,hk2,hk3,hk4⟩:=hc.row
 have fin:∀ v w',(Builtin.append_ #[t,t] T #[.slice A n cap,.slice (some ad) m c]).run P w=.ok v w'->(∃ A' cap' Sn,v=.slice A' (n+m) cap'/\Turn Sa w w'/\(∀ x,Sn x->(Sa x\/w.heap.size<=x)/\x<w'.heap.size)/\RecK e A' (n+m) cap' (xs++ys) Sn w')->∃ v w',(builtin .append #[t,t] T cs #[.slice A n cap,.slice (some ad) m c]).run P w=.ok (.value v) w'/\K v w':=by
  intro v w' hr hh
  obtain⟨A',cap',Sn,rfl,hT,hSn,hO⟩:=hh
  refine⟨_,w',?_,k A' cap' w' _ (hc.turnO hR r1 r2 r3 hT hSn hO (RecK.stab _ _ _ _ _))⟩
  show (do pure (Next.value (<-Builtin.append_ #[t,t] T #[.slice A n cap,.slice (some ad) m c])):Sem Next).run P w=_
  simp only [Sem.run_bind,hr,Result.andThen_ok,Sem.run_pure]
 have grown:∀ (old:Nat),old<n+m->∃ A' cap' Sn,(Value.slice (some ⟨w.heap.size,0,none⟩) (n+m) (grownCap w (n+m) old e))=.slice A' (n+m) cap'/\Turn Sa w (w.drew.alloc (.cells (xs.toArray++ys.toArray++Builtin.zeroCells z.cells (grownCap w (n+m) old e-(n+m))) e))/\(∀ x,Sn x->(Sa x\/w.heap.size<=x)/\x<(w.drew.alloc (.cells (xs.toArray++ys.toArray++Builtin.zeroCells z.cells (grownCap w (n+m) old e-(n+m))) e)).heap.size)/\RecK e A' (n+m) cap' (xs++ys) Sn (w.drew.alloc (.cells (xs.toArray++ys.toArray++Builtin.zeroCells z.cells (grownCap w (n+m) old e-(n+m))) e)):=by
  intro old ho
  have hge:=grownCap_ge w (n+m) old e
  have hcm:grownCap w (n+m) old e<=maxLen:=grownCap_le_maxLen w (n+m) old e hmax
  have hsz:(w.drew.alloc (.cells (xs.toArray++ys.toArray++Builtin.zeroCells z.cells (grownCap w (n+m) old e-(n+m))) e)).heap.size=w.heap.size+1:=by simp
  have hlen:(xs++ys).length=n+m:=by rw [List.length_append,hk1,hl]
  refine⟨_,_,fun x=>x=w.heap.size,rfl,⟨rfl,rfl,rfl,fun x hx _=>heap_alloc_old w.drew _ hx⟩,fun x hx=>⟨.inr (Nat.le_of_eq hx.symm),by rw [hsz];show x<_;rw [show x=w.heap.size from hx];omega⟩,hlen,hge,hcm,.inr ⟨w.heap.size,0,(xs.toArray++ys.toArray++Builtin.zeroCells z.cells (grownCap w (n+m) old e-(n+m))).toList,rfl,rfl,heap_alloc_new w.drew _,?_,?_⟩⟩
  ·have e1:(xs.toArray++ys.toArray++Builtin.zeroCells z.cells (grownCap w (n+m) old e-(n+m))).toList.length=n+m+(grownCap w (n+m) old e-(n+m))*1:=by
    rw [Array.length_toList,Array.size_append,Array.size_append,List.size_toArray,List.size_toArray,size_zeroCells,hzs,hk1,hl]
   rw [e1]
   omega
  ·simp only [Array.toList_append,List.append_assoc,List.drop_zero]
   rw [<-List.append_assoc,<-hlen]
   exact List.take_left
 rcases hk4 with ⟨rfl,rfl⟩ | ⟨g,o,cur,rfl,hs,hB,hcl,htk⟩
 ·have hn:n=0:=by omega
  subst hn
  have hx:xs=[]:=List.eq_nil_of_length_eq_zero hk1
  subst hx
  have hr:=run_append_nil (P:=P) w t T e i z ht h2 h3 ad m c ys hl' hnews (by omega) (by omega) (by have hb:=hbytes;simp only [Nat.zero_add] at hb;omega)
  have hgr:=grown 0 (by omega)
  simp only [Nat.zero_add,List.nil_append,Array.empty_append] at hgr fin ⊢
  exact fin _ _ hr hgr
 ·by_cases hroom:n+m<=cap
  ·have hst:=run_storeCells_at P g (o+n) e ys 0 cur.toArray w hB (by simp only [List.size_toArray];omega) (allOne_mem h1)
   have hf:=run_firstCells_some (P:=P) w i.size m ad m c ys hl' hnews
   rw [h4] at hf
   have hr:(Builtin.append_ #[t,t] T #[.slice (some ⟨g,o,none⟩) n cap,.slice (some ad) m c]).run P w=.ok (.slice (some ⟨g,o,none⟩) (n+m) cap) (w.setRow g (cur.take (o+n)++ys++cur.drop (o+n+ys.length)).toArray):=by
    simp only [Nat.add_zero] at hst
    simp [Builtin.append_,run_underlying ht,sizeOf,typeInfo,h2,Builtin.lenOf,hroom,hf,Addr.add_lit,h4] at hst ⊢
    show ((Sem.run P (storeCells ⟨g,o+n,none⟩ ys 0) w).andThen fun a w'=>Result.ok (Value.slice (some ⟨g,o,none⟩) (n+m) cap) w')=_
    rw [hst]
    rfl
   refine fin _ _ hr ⟨_,_,Sa,rfl,⟨rfl,rfl,rfl,fun x hx hn=>setRow_other w g x _ (fun e=>hn (e▸hs))⟩,fun x hx=>⟨.inl hx,?_⟩,by rw [List.length_append,hk1,hl],hroom,hk3,.inr ⟨g,o,cur.take (o+n)++ys++cur.drop (o+n+ys.length),rfl,hs,setRow_heap w g cur.toArray _ e (0,0) hB,?_,?_⟩⟩
   ·have:=hc.ctx.lt x (r2 x hx).1
    simpa using this
   ·simp only [List.length_append,List.length_take,List.length_drop]
    omega
   ·rw [List.append_assoc,List.drop_append_of_le_length (by rw [List.length_take];omega),List.drop_take,show o+n-o=n from by omega,htk,<-List.append_assoc]
    rw [show n+m=(xs++ys).length from by rw [List.length_append,hk1,hl]]
    exact List.take_left
  ·have holds:∀ j u,xs[j]?=some u->w.cell? ((⟨g,o,none⟩:Addr).add j)=some u:=fun j u hu=>by
    rw [Addr.add_lit,hB.cell]
    rw [<-htk,List.getElem?_take] at hu
    split at hu
    ·rw [List.getElem?_drop] at hu
     exact hu
    ·cases hu
   have hr:=run_append_grow (P:=P) w t T e i z ht h2 h3 ⟨g,o,none⟩ n cap xs (by rw [h4,Nat.mul_one];exact hk1) holds ad m c ys hl' hnews (by omega) (by simp only [maxLen] at hmax;omega) (growslice_fits (by omega) hbytes)
   exact fin _ _ hr (grown cap (by omega))
end Go.Vc
end
namespace Go.Proofs.YtokglimimnelaaaGreatDoor
open Go.Vc Go.RowKit Go.Fl
set_option maxRecDepth 100000
theorem info_D:(Tryz.prog.info? 32).map (fun i=>(i.zero,i.size,i.bytes))=some (some (.agg #[.int .i64 0,.string ⟨#[]⟩,.string ⟨#[]⟩,.int .i64 0,.int .i64 0,.string ⟨#[]⟩,.int .i64 0,.int .i64 0]),8,88):=by kernel_rfl
theorem slnil_D (a:Option Addr) (n c:Nat) (ox oy:Operand) (w:World):(do eqGuard .eql 22 ox oy (.slice a n c) (.slice none 0 0);Go.binOp .eql 22 (.slice a n c) (.slice none 0 0):Sem Value).run Tryz.prog w=.ok (.bool a.isNone) w:=by
 have h:=Lib.run_eql_slice_nil (P:=Tryz.prog) w 22 32 a n c 0 0 Tryz.underlying22
 simp only [eqGuard]
 simpa using h
theorem cloneD_any (A:Option Addr) (n cap:Nat) (css:List (List Value)) (hF:Flat 8 css) (hn:css.length=n) (hb:n<=1000000) (S:Nat->Prop) (w:World) (hR:Row S w A n cap css.flatten):
  Calls Tryz.prog 48 #[.slice A n cap] w (RetO 32 8 n css.flatten w):=by
 refine vE Tryz.func48 ?_
 refine⟨_,fun w=>slnil_D A n cap _ _ w,?_⟩
 cases A with
 | none=>
  obtain⟨h0,h1⟩:=Row.cut hR hF (by decide) hn rfl
  subst h0
  rw [h1]
  exact⟨none,0,rfl,Below.refl _ _,World.ownsRow_nil _ _ _ _⟩
 | some ad=>
  intro g w1 h1
  have hc:=Ctx.start w no (fun _ h=>h.elim)
  obtain⟨hc,hf,ho⟩:=Own.made hc h1 8 0 rfl (Nat.zero_le _)
  refine app_row Tryz.underlying22 info_D rfl (by decide) hc ho (hR.below h1.below) (by rw [hF.len,hn]) hF.ones (by omega) (by decide) ?_
  intro A' cap' w2 hc hf ho _
  rw [Nat.zero_add] at ho ⊢
  rw [List.nil_append] at ho
  exact⟨A',cap',rfl,hc.below,ho.row⟩
theorem info_S:(Tryz.prog.info? 9).map (fun i=>(i.zero,i.size,i.bytes))=some (some (.string ⟨#[]⟩),1,16):=by kernel_rfl
theorem slnil_S (a:Option Addr) (n c:Nat) (ox oy:Operand) (w:World):(do eqGuard .eql 102 ox oy (.slice a n c) (.slice none 0 0);Go.binOp .eql 102 (.slice a n c) (.slice none 0 0):Sem Value).run Tryz.prog w=.ok (.bool a.isNone) w:=by
 have h:=Lib.run_eql_slice_nil (P:=Tryz.prog) w 102 9 a n c 0 0 Tryz.underlying102
 simp only [eqGuard]
 simpa using h
theorem cloneS_any (A:Option Addr) (n cap:Nat) (css:List (List Value)) (hF:Flat 1 css) (hn:css.length=n) (hb:n<=1000000) (S:Nat->Prop) (w:World) (hR:Row S w A n cap css.flatten):
  Calls Tryz.prog 79 #[.slice A n cap] w (RetO 9 1 n css.flatten w):=by
 refine vE Tryz.func79 ?_
 refine⟨_,fun w=>slnil_S A n cap _ _ w,?_⟩
 cases A with
 | none=>
  obtain⟨h0,h1⟩:=Row.cut hR hF (by decide) hn rfl
  subst h0
  rw [h1]
  exact⟨none,0,rfl,Below.refl _ _,World.ownsRow_nil _ _ _ _⟩
 | some ad=>
  intro g w1 h1
  have hc:=Ctx.start w no (fun _ h=>h.elim)
  obtain⟨hc,hf,ho⟩:=Own.made hc h1 1 0 rfl (Nat.zero_le _)
  refine app_row Tryz.underlying102 info_S rfl (by decide) hc ho (hR.below h1.below) (by rw [hF.len,hn]) hF.ones (by omega) (by decide) ?_
  intro A' cap' w2 hc hf ho _
  rw [Nat.zero_add] at ho ⊢
  rw [List.nil_append] at ho
  exact⟨A',cap',rfl,hc.below,ho.row⟩
set_option maxRecDepth 100000
theorem hv_hexd {d:Nat} (h:d<16):hv (hexd d)=d:=by
 unfold hv
 rw [hexd_toNat d h]
 by_cases h1:d<10
 ·rw [if_pos h1,if_pos (by omega)]
  push_cast
  omega
 ·rw [if_neg h1,if_neg (by omega)]
  push_cast
  omega
theorem isHex_hexd {d:Nat} (h:d<16):isHex (hexd d)=true:=by
 unfold isHex
 rw [hexd_toNat d h,Bool.or_eq_true,Bool.and_eq_true,Bool.and_eq_true]
 simp only [decide_eq_true_eq]
 by_cases h1:d<10
 ·rw [if_pos h1]
  omega
 ·rw [if_neg h1]
  omega
theorem dig_lt (a:Int) (q:Nat):(a / 2 ^ (12-4*q) % 16).toNat<16:=by omega
theorem hval_hex4 {a:Int} (h0:0<=a) (h1:a<65536):hval (hex4 a)=a:=by
 show (((0*16+hv (dig a 0))*16+hv (dig a 1))*16+hv (dig a 2))*16+hv (dig a 3)=a
 unfold dig
 rw [hv_hexd (dig_lt a 0),hv_hexd (dig_lt a 1),hv_hexd (dig_lt a 2),hv_hexd (dig_lt a 3)]
 have e0:(2:Int) ^ (12-4*0)=4096:=by decide
 have e1:(2:Int) ^ (12-4*1)=256:=by decide
 have e2:(2:Int) ^ (12-4*2)=16:=by decide
 have e3:(2:Int) ^ (12-4*3)=1:=by decide
 rw [e0,e1,e2,e3]
 omega
theorem zRead_text {z:Int × Int} (h:zOk z):zRead (zText z)=(z,true):=by
 obtain⟨⟨a0,a1⟩,b0,b1⟩:=h
 have hp:pp (zText z) 8=z:=by
  show (hval (hex4 z.1),hval (hex4 z.2))=z
  rw [hval_hex4 a0 (by omega),hval_hex4 b0 (by omega)]
 have hall:(zText z).all isHex=true:=by
  show ([dig z.1 0,dig z.1 1,dig z.1 2,dig z.1 3,dig z.2 0,dig z.2 1,dig z.2 2,dig z.2 3]:List UInt8).all isHex=true
  unfold dig
  simp only [List.all_cons,List.all_nil,isHex_hexd (dig_lt _ _),Bool.and_true]
 unfold zRead
 rw [hp,if_pos ⟨rfl,hall,a1,b1⟩]
theorem zfront {z:Int × Int} (h:zOk z) (k:Nat) (hk:k<8):(zRead ((zText z).take k++List.replicate (8-k) 48)).2=true:=by
 obtain⟨⟨a0,a1⟩,b0,b1⟩:=h
 have key:∀ l:List UInt8,l.length=8->l.all isHex=true->hval ((l.take 8).take 4)<65521->hval ((l.take 8).drop 4)<65521->(zRead l).2=true:=fun l h1 h2 h3 h4=>by
  unfold zRead
  rw [if_pos ⟨h1,h2,h3,h4⟩]
 have ha:=hval_hex4 a0 (by omega)
 have hb:=hval_hex4 b0 (by omega)
 have ex:∀ a:Int,hval (hex4 a)=(((0*16+hv (dig a 0))*16+hv (dig a 1))*16+hv (dig a 2))*16+hv (dig a 3):=fun _=>rfl
 rw [ex] at ha hb
 have hd:∀ (a:Int) (q:Nat),0<=hv (dig a q)/\hv (dig a q)<16/\isHex (dig a q)=true:=fun a q=>by
  unfold dig
  rw [hv_hexd (dig_lt a q)]
  have:=dig_lt a q
  exact⟨by omega,by omega,isHex_hexd this⟩
 have p0:=hd z.1 0
 have p1:=hd z.1 1
 have p2:=hd z.1 2
 have p3:=hd z.1 3
 have q0:=hd z.2 0
 have q1:=hd z.2 1
 have q2:=hd z.2 2
 have q3:=hd z.2 3
 have h48:hv 48=0:=by decide
 have x48:isHex 48=true:=by decide
 have e:zText z=[dig z.1 0,dig z.1 1,dig z.1 2,dig z.1 3,dig z.2 0,dig z.2 1,dig z.2 2,dig z.2 3]:=rfl
 rw [e]
 generalize dig z.1 0=c0 at*
 generalize dig z.1 1=c1 at*
 generalize dig z.1 2=c2 at*
 generalize dig z.1 3=c3 at*
 generalize dig z.2 0=c4 at*
 generalize dig z.2 1=c5 at*
 generalize dig z.2 2=c6 at*
 generalize dig z.2 3=c7 at*
 have hv4:∀ a b c d:UInt8,hval [a,b,c,d]=(((0*16+hv a)*16+hv b)*16+hv c)*16+hv d:=fun _ _ _ _=>rfl
 rcases (by omega:k=0\/k=1\/k=2\/k=3\/k=4\/k=5\/k=6\/k=7) with rfl | rfl | rfl | rfl | rfl | rfl | rfl | rfl
 ·refine key [48,48,48,48,48,48,48,48] rfl (by simp [x48]) ?_ ?_
  ·show hval [48,48,48,48]<65521
   rw [hv4];omega
  ·show hval [48,48,48,48]<65521
   rw [hv4];omega
 ·refine key [c0,48,48,48,48,48,48,48] rfl (by simp [x48,p0.2.2]) ?_ ?_
  ·show hval [c0,48,48,48]<65521
   rw [hv4];omega
  ·show hval [48,48,48,48]<65521
   rw [hv4];omega
 ·refine key [c0,c1,48,48,48,48,48,48] rfl (by simp [x48,p0.2.2,p1.2.2]) ?_ ?_
  ·show hval [c0,c1,48,48]<65521
   rw [hv4];omega
  ·show hval [48,48,48,48]<65521
   rw [hv4];omega
 ·refine key [c0,c1,c2,48,48,48,48,48] rfl (by simp [x48,p0.2.2,p1.2.2,p2.2.2]) ?_ ?_
  ·show hval [c0,c1,c2,48]<65521
   rw [hv4];omega
  ·show hval [48,48,48,48]<65521
   rw [hv4];omega
 ·refine key [c0,c1,c2,c3,48,48,48,48] rfl (by simp [x48,p0.2.2,p1.2.2,p2.2.2,p3.2.2]) ?_ ?_
  ·show hval [c0,c1,c2,c3]<65521
   rw [hv4];omega
  ·show hval [48,48,48,48]<65521
   rw [hv4];omega
 ·refine key [c0,c1,c2,c3,c4,48,48,48] rfl (by simp [x48,p0.2.2,p1.2.2,p2.2.2,p3.2.2,q0.2.2]) ?_ ?_
  ·show hval [c0,c1,c2,c3]<65521
   rw [hv4];omega
  ·show hval [c4,48,48,48]<65521
   rw [hv4];omega
 ·refine key [c0,c1,c2,c3,c4,c5,48,48] rfl (by simp [x48,p0.2.2,p1.2.2,p2.2.2,p3.2.2,q0.2.2,q1.2.2]) ?_ ?_
  ·show hval [c0,c1,c2,c3]<65521
   rw [hv4];omega
  ·show hval [c4,c5,48,48]<65521
   rw [hv4];omega
 ·refine key [c0,c1,c2,c3,c4,c5,c6,48] rfl (by simp [x48,p0.2.2,p1.2.2,p2.2.2,p3.2.2,q0.2.2,q1.2.2,q2.2.2]) ?_ ?_
  ·show hval [c0,c1,c2,c3]<65521
   rw [hv4];omega
  ·show hval [c4,c5,c6,48]<65521
   rw [hv4];omega
def turnG (t:List UInt8):ByteArray × Nat × Int:=
 if markedB t=false then (⟨#[]⟩,0,3) else if t.length<8 then (⟨#[]⟩,0,2)
 else if (getV (t.drop 8)).2.2=2 then (⟨#[]⟩,0,2)
 else if (getV (t.drop 8)).2.2≠0\/vK (getV (t.drop 8)).1≠2\/leafL (vS (getV (t.drop 8)).1)≠t.take (8+(getV (t.drop 8)).2.1) then (⟨#[]⟩,0,3)
 else (vS (getV (t.drop 8)).1,8+(getV (t.drop 8)).2.1,0)
theorem szGo_front:∀ (l:List UInt8) (i n j:Nat),(∀ c∈l,dgt c=true)->i+l.length<=7->(0<i->l≠[]->0<n)->(i=0->∀ c t,l=c::t->t≠[]->c≠48)->szGo (l.take j) i n=(0,0,2)
 | [],i,n,j,hd,h7,hn,hz=>by rw [List.take_nil];rfl
 | c::t,i,n,0,hd,h7,hn,hz=>rfl
 | c::t,i,n,j+1,hd,h7,hn,hz=>by
  have hc:=hd c (by simp)
  have hc':=dgt_iff.1 hc
  simp only [List.length_cons] at h7
  rw [List.take_succ_cons,szGo,if_neg (fun h=>by rw [h.1] at hc';revert hc';decide),if_neg (fun h=>by
   rcases h with h | h | h
   ·rw [hc] at h;cases h
   ·omega
   ·have:=hn h.1 (by simp);omega),szGo_front t (i+1) _ j (fun x hx=>hd x (by simp [hx])) (by omega) (fun _ ht=>?_) (fun h=>by omega)]
  rcases Nat.eq_zero_or_pos i with h | h
  ·have h48:=hz h c t rfl ht
   have:c.toNat≠48:=fun e=>h48 (UInt8.toNat_inj.1 e)
   omega
  ·have:=hn h (by simp);omega
theorem getV_front (v:V) (h:(txtV v).length<10000000) (j:Nat) (hj:j<(putV v).length):getV ((putV v).take j)=(V0,0,2):=by
 have hlen:=putV_len v
 have hd:=dec_digits (txtV v).length
 have h7:=dec_len7 h
 have h0:0<(Lib.decDigits (txtV v).length).length:=List.length_pos_iff.2 hd.1
 have key:getP 6 ((putV v).take j)=(V0,0,2):=by
  rw [putV_eq]
  rcases Nat.lt_or_ge (Lib.decDigits (txtV v).length).length j with hlt | hge
  ·have e:(Lib.decDigits (txtV v).length++58::(txtV v++[endV v])).take j=Lib.decDigits (txtV v).length++58::(txtV v++[endV v]).take (j-(Lib.decDigits (txtV v).length).length-1):=by
    rw [List.take_append,List.take_of_length_le (Nat.le_of_lt hlt)]
    congr 1
    obtain⟨m,hm⟩:∃ m,j-(Lib.decDigits (txtV v).length).length=m+1:=⟨j-(Lib.decDigits (txtV v).length).length-1,by omega⟩
    rw [hm,List.take_succ_cons]
    rfl
   rw [e]
   have hs:=szGo_put (Lib.decDigits (txtV v).length) ((txtV v++[endV v]).take (j-(Lib.decDigits (txtV v).length).length-1)) 0 0 hd.2.1 (by omega) (by omega) (fun h=>by omega) (fun _=>hd.2.2.2)
   rw [hd.2.2.1,Nat.zero_add] at hs
   unfold getP
   rw [hs]
   simp only [ne_eq,not_true_eq_false,if_false]
   rw [if_pos]
   rw [List.length_append,List.length_cons,List.length_take,List.length_append]
   simp only [List.length_cons,List.length_nil]
   omega
  ·have hs:=szGo_front (Lib.decDigits (txtV v).length) 0 0 j hd.2.1 (by omega) (fun h=>by omega) (fun _=>hd.2.2.2)
   rw [List.take_append_of_le_length hge]
   unfold getP
   rw [hs]
   rfl
 unfold getV
 rw [key]
 rfl
theorem putS_str (s:ByteArray) (h:s.size<=400000):putS (vStr s)=putV (vStr s):=by
 have h7:(Lib.decDigits (txtV (vStr s)).length).length<=7:=dec_len7 (show s.data.toList.length<_ by rw [Array.length_toList];show s.size<_;omega)
 have hm:mayV (vStr s)=true:=by kernel_rfl
 unfold putS
 rw [hm,decide_eq_true h7]
 rfl
theorem leafL_eq (s:ByteArray) (h:s.size<=400000):leafL s=markL s.data.toList++putV (vStr s):=by
 unfold leafL
 rw [if_neg (by omega),putS_str s h]
theorem leaf_pos (s:ByteArray) (h:s.size<=400000):10<=(leafL s).length:=by
 rw [leafL_eq s h,List.length_append,markL_len]
 have h1:=putV_len (vStr s)
 have h2:=List.length_pos_iff.2 (dec_digits (txtV (vStr s)).length).1
 omega
theorem markedB_leaf (s:List UInt8) (r:List UInt8):markedB (markL s++r)=true:=by
 have hl:=markL_len s
 unfold markedB
 rw [List.take_append_of_le_length (by omega),List.take_of_length_le (by omega),List.length_append,show 8-((markL s).length+r.length)=0 from by omega]
 show (zRead (markL s++[])).2=true
 rw [List.append_nil]
 unfold markL
 rw [zRead_text (zOn_ok _ _ ⟨by decide,by decide⟩)]
theorem drop8 (s r:List UInt8):(markL s++r).drop 8=r:=by
 have hl:=markL_len s
 rw [List.drop_append_of_le_length (by omega),List.drop_of_length_le (by omega),List.nil_append]
theorem turnG_leaf (s:ByteArray) (h:s.size<=400000) (r:List UInt8):turnG (leafL s++r)=(s,(leafL s).length,0):=by
 have hl:=markL_len s.data.toList
 have ht:(txtV (vStr s)).length<10000000:=show s.data.toList.length<_ by rw [Array.length_toList];show s.size<_;omega
 have hm:mayV (vStr s)=true:=by kernel_rfl
 have hg:getV (putV (vStr s)++r)=(vStr s,(putV (vStr s)).length,0):=by
  unfold getV
  rw [getP_put 6 (vStr s) (by unfold mayV at hm;exact of_decide_eq_true hm) ⟨⟨by decide,by decide⟩,trivial⟩ ht r]
  simp only [hm]
  rfl
 have hlen:(leafL s).length=8+(putV (vStr s)).length:=by rw [leafL_eq s h,List.length_append,hl]
 unfold turnG
 rw [leafL_eq s h,List.append_assoc,markedB_leaf,drop8,hg,if_neg (by decide),if_neg (by rw [List.length_append];omega)]
 simp only
 rw [if_neg (by decide),if_neg]
 ·show (s,8+_,_)=_
  rw [List.length_append,hl]
 ·rintro (e | e | e)
  ·exact e rfl
  ·exact e rfl
  ·apply e
   show leafL s=_
   rw [leafL_eq s h,<-List.append_assoc,List.take_left' (by rw [List.length_append,hl])]
theorem turnG_front (s:ByteArray) (h:s.size<=400000) (k:Nat) (hk:k<(leafL s).length):(turnG ((leafL s).take k)).2.2=2:=by
 have hl:=markL_len s.data.toList
 have ht:(txtV (vStr s)).length<10000000:=show s.data.toList.length<_ by rw [Array.length_toList];show s.size<_;omega
 have hlen:(leafL s).length=8+(putV (vStr s)).length:=by rw [leafL_eq s h,List.length_append,hl]
 rcases Nat.lt_or_ge k 8 with h8 | h8
 ·have e:(leafL s).take k=(markL s.data.toList).take k:=by rw [leafL_eq s h,List.take_append_of_le_length (by omega)]
  have hlk:((markL s.data.toList).take k).length=k:=by rw [List.length_take];omega
  have hm:markedB ((markL s.data.toList).take k)=true:=by
   unfold markedB
   rw [hlk,List.take_of_length_le (by omega)]
   exact zfront (zOn_ok _ _ ⟨by decide,by decide⟩) k h8
  unfold turnG
  rw [e,hm,if_neg (by decide),if_pos (by omega)]
 ·have e:(leafL s).take k=markL s.data.toList++(putV (vStr s)).take (k-8):=by
   rw [leafL_eq s h,List.take_append,List.take_of_length_le (by omega),hl]
  have hg:=getV_front (vStr s) ht (k-8) (by omega)
  unfold turnG
  rw [e,markedB_leaf,drop8,hg,if_neg (by decide)]
  split<;>rfl
def leavesL:List ByteArray->List UInt8
 | []=>[]
 | s::r=>leafL s++leavesL r
theorem leavesL_append:∀ a b:List ByteArray,leavesL (a++b)=leavesL a++leavesL b
 | [],b=>rfl
 | s::r,b=>by rw [List.cons_append,leavesL,leavesL,leavesL_append r b,List.append_assoc]
def Splits:List UInt8->List ByteArray->Nat->Prop
 | t,[],at_=>at_=0/\(t=[]\/(turnG t).2.2=2)
 | t,x::xs,at_=>∃ n a,turnG t=(x,n,0)/\0<n/\n<=t.length/\at_=n+a/\Splits (t.drop n) xs a
theorem Splits.leaves:∀ (l:List ByteArray) (p:List UInt8),(∀ x∈l,x.size<=400000)->(p=[]\/(turnG p).2.2=2)->Splits (leavesL l++p) l (leavesL l).length
 | [],p,_,hp=>⟨rfl,hp⟩
 | s::r,p,hl,hp=>by
  have hs:=hl s (List.mem_cons_self ..)
  have h10:=leaf_pos s hs
  refine⟨(leafL s).length,(leavesL r).length,?_,by omega,?_,?_,?_⟩
  ·rw [leavesL,List.append_assoc]
   exact turnG_leaf s hs _
  ·rw [leavesL,List.append_assoc,List.length_append]
   omega
  ·rw [leavesL,List.length_append]
  ·rw [leavesL,List.append_assoc,List.drop_left' rfl]
   exact Splits.leaves r p (fun x hx=>hl x (List.mem_cons_of_mem _ hx)) hp
theorem leaves_take:∀ (l:List ByteArray) (k:Nat),(∀ x∈l,x.size<=400000)->∃ m p,m<=l.length/\(leavesL l).take k=leavesL (l.take m)++p/\(p=[]\/(turnG p).2.2=2)/\(leavesL (l.take m)).length<=k/\∀ j,j<=l.length->(leavesL (l.take j)).length<=k->j<=m
 | [],k,_=>⟨0,[],Nat.le_refl _,by simp [leavesL],.inl rfl,Nat.zero_le _,fun j hj _=>hj⟩
 | s::r,k,hl=>by
  have hs:=hl s (List.mem_cons_self ..)
  have h10:=leaf_pos s hs
  rcases Nat.lt_or_ge k (leafL s).length with hk | hk
  ·refine⟨0,(leafL s).take k,Nat.zero_le _,?_,.inr (turnG_front s hs k hk),Nat.zero_le _,fun j hj hjk=>?_⟩
   ·rw [leavesL,List.take_append_of_le_length (Nat.le_of_lt hk)]
    rfl
   ·cases j with
    | zero=>exact Nat.le_refl _
    | succ j=>
     rw [List.take_succ_cons,leavesL,List.length_append] at hjk
     omega
  ·obtain⟨m,p,h1,h2,h3,h4,h5⟩:=leaves_take r (k-(leafL s).length) (fun x hx=>hl x (List.mem_cons_of_mem _ hx))
   refine⟨m+1,p,by rw [List.length_cons];omega,?_,h3,?_,fun j hj hjk=>?_⟩
   ·rw [leavesL,List.take_append,List.take_of_length_le hk,h2,List.take_succ_cons,leavesL,List.append_assoc]
   ·rw [List.take_succ_cons,leavesL,List.length_append]
    omega
   ·cases j with
    | zero=>exact Nat.zero_le _
    | succ j=>
     rw [List.take_succ_cons,leavesL,List.length_append] at hjk
     have:=h5 j (by rw [List.length_cons] at hj;omega) (by omega)
     omega
set_option maxRecDepth 100000
theorem doS_next {s:Stt} {d:D} (h:mayS s=true) (hd:mayD d=true) (hq:s.seq<maxN):(doS s d).1.seq=s.seq+1:=by
 rw [doS_F h hd hq]
 unfold doF
 split
 ·rfl
 split
 ·rfl
 split
 ·rfl
 simp only
 split<;>rfl
theorem foldS_next:∀ (l:List D) {s:Stt},mayS s=true->s.lows.length=5->(∀ d∈l,mayD d=true)->s.seq+l.length<=maxN->(foldS s l).seq=s.seq+l.length
 | [],s,h,h5,hd,hq=>by show s.seq=s.seq+((0:Nat):Int);omega
 | d::r,s,h,h5,hd,hq=>by
  rw [List.length_cons] at hq
  have e:=doS_next h (hd d (List.mem_cons_self ..)) (by omega)
  have ih:=foldS_next r (mayS_doS (d:=d) h5 h) (doS_lows5 d h5) (fun x hx=>hd x (List.mem_cons_of_mem _ hx)) (by omega)
  show (foldS (doS s d).1 r).seq=_
  rw [ih,e,List.length_cons]
  omega
def resS:Stt->List D->List Res
 | _,[]=>[]
 | s,d::r=>(doS s d).2::resS (doS s d).1 r
theorem resS_len:∀ (s:Stt) (l:List D),(resS s l).length=l.length
 | _,[]=>rfl
 | s,d::r=>by rw [resS,List.length_cons,List.length_cons,resS_len]
theorem foldS_append (s:Stt) (a b:List D):foldS s (a++b)=foldS (foldS s a) b:=by
 unfold foldS
 rw [List.foldl_append]
structure Known where
 b:Stt
 pend:List D
 ep:Int
 ln:Int
def Known0:Known:=⟨Stt0,[],0,0⟩
def Known.seq (k:Known):Int:=k.b.seq+k.pend.length
structure Known.Ok (k:Known):Prop where
 may:mayS k.b=true
 lows:k.b.lows.length=5
 pend:∀ d∈k.pend,mayD d=true/\d.Ok
 len:k.pend.length<=60
 seq:k.b.seq+k.pend.length<=maxN
 ep:i64ok k.ep
 ln:i64ok k.ln
theorem Known0.ok:Known0.Ok:=⟨by kernel_rfl,rfl,(fun d hd=>by cases hd),Nat.zero_le _,by decide,by unfold i64ok;decide,by unfold i64ok;decide⟩
def vKnown (k:Known):V:=vRow [vStr ⟨(putStt k.b).toArray⟩,vRow (k.pend.map valD'),vNum k.ep,vNum k.ln]
def textK (k:Known):List UInt8:=putS (vKnown k)
theorem valD_may {d:D} (h:mayD d=true):valD' d=vDeed d:=by rw [valD',if_pos h]
theorem cnt_deed (f:Nat) (d:D):cnt (f+2) (vDeed d)=9:=by simp [vDeed,cnt_row,cnt_num,cnt_str,cntL]
theorem mayV_known {k:Known} (h:k.Ok):mayV (vKnown k)=true:=by
 have hl:=h.len
 have h1:=cntL_bound (cnt 4) (fun v=>(cnt_range 4 v).1) 9 (k.pend.map valD') 1 (fun x hx=>by
  obtain⟨d,hd,rfl⟩:=List.mem_map.1 hx
  rw [valD_may (h.pend d hd).1,cnt_deed];decide) (by rw [List.length_map];omega)
 rw [List.length_map] at h1
 rw [mayV,decide_eq_true_eq,vKnown,cnt_row,cntL_cons,cnt_str,if_neg (by decide),cntL_cons,cnt_row,if_neg (by omega),cntL_cons,cnt_num,if_neg (by omega),cntL_cons,cnt_num,if_neg (by omega),cntL]
 omega
theorem putStt_len9 {s:Stt} (h5:s.lows.length=5) (h:mayS s=true):(putStt s).length<=200009:=by
 have h1:=txt_vStt s h5 h
 have h2:=dec_len7 (u:=(txtV (vStt s)).length) (by omega)
 rw [putStt_may s h5 h,putV_len]
 omega
theorem putV_deed {d:D} (hk:d.Ok) (h:mayD d=true):(putV (vDeed d)).length<=1009:=by
 have h1:=txt_vDeed d hk h
 have h2:=dec_len7 (u:=(txtV (vDeed d)).length) (by omega)
 rw [putV_len]
 omega
theorem txt_known {k:Known} (h:k.Ok):(txtV (vKnown k)).length<=270000:=by
 have b1:=putL_bound 1009 (k.pend.map valD') fun x hx=>by
  obtain⟨d,hd,rfl⟩:=List.mem_map.1 hx
  rw [valD_may (h.pend d hd).1]
  exact putV_deed (h.pend d hd).2 (h.pend d hd).1
 rw [List.length_map] at b1
 have hl:=h.len
 have c1:=putV_row (k.pend.map valD') 60540 (by omega) (by decide)
 have c2:=putStt_len9 h.lows h.may
 have c3:=putV_str ⟨(putStt k.b).toArray⟩ (by show (putStt k.b).toArray.size<_;rw [List.size_toArray];omega)
 have e3:(⟨(putStt k.b).toArray⟩:ByteArray).size=(putStt k.b).length:=List.size_toArray ..
 have c4:=putV_num k.ep h.ep
 have c5:=putV_num k.ln h.ln
 rw [vKnown,txt_row]
 simp only [putL,List.length_append,List.length_nil]
 omega
theorem okV_valD {d:D} (hk:d.Ok) (h:mayD d=true):okV (valD' d):=by rw [valD_may h];exact okV_vDeed d hk
theorem okV_known {k:Known} (h:k.Ok):okV (vKnown k):=by
 refine okV_row _ ?_
 simp only [okL]
 exact⟨okV_str _,okV_row _ (okL_map _ _ fun d hd=>okV_valD (h.pend d hd).2 (h.pend d hd).1),okV_num _ h.ep,okV_num _ h.ln,trivial⟩
theorem putS_put {v:V} (h:mayV v=true) (hl:(txtV v).length<10000000):putS v=putV v:=by
 have:=dec_len7 hl
 rw [putS,h]
 simp [this]
theorem textK_eq {k:Known} (h:k.Ok):textK k=putV (vKnown k):=putS_put (mayV_known h) (by have:=txt_known h;omega)
theorem textK_len {k:Known} (h:k.Ok):(textK k).length<=270009:=by
 have h1:=txt_known h
 have h2:=dec_len7 (u:=(txtV (vKnown k)).length) (by omega)
 rw [textK_eq h,putV_len]
 omega
theorem textK_ne {k:Known} (h:k.Ok):textK k≠[]:=by rw [textK_eq h];exact putV_ne _
theorem allV_textK {k:Known} (h:k.Ok):allV (textK k)=(vKnown k,0):=by
 rw [textK_eq h]
 exact allV_put _ (mayV_known h) (okV_known h) (by have:=txt_known h;omega)
def FirstOk (s:ByteArray) (k:Known):Prop:=(s=⟨#[]⟩/\k=Known0)\/(s=⟨(textK k).toArray⟩/\k.Ok)
theorem FirstOk.ok {s:ByteArray} {k:Known} (h:FirstOk s k):k.Ok:=by
 rcases h with ⟨_,rfl⟩ | ⟨_,h⟩
 ·exact Known0.ok
 ·exact h
theorem FirstOk.size {s:ByteArray} {k:Known} (h:FirstOk s k):s.size<=270009:=by
 rcases h with ⟨rfl,_⟩ | ⟨rfl,h⟩
 ·decide
 ·show (textK k).toArray.size<=_
  rw [List.size_toArray]
  exact textK_len h
inductive Rc where
 | add (d:D)
 | done (n:Int)
 | enter (n:Int)
def vRc:Rc->V
 | .add d=>vRow [vNum 1,valD' d]
 | .done n=>vRow [vNum 2,vNum n]
 | .enter n=>vRow [vNum 3,vNum n]
def txtR (r:Rc):ByteArray:=⟨(putS (vRc r)).toArray⟩
def Rc.Ok:Rc->Prop
 | .add d=>mayD d=true/\d.Ok
 | .done n=>i64ok n
 | .enter n=>i64ok n
theorem vRc_facts {r:Rc} (h:r.Ok):mayV (vRc r)=true/\(txtV (vRc r)).length<=1100/\okV (vRc r):=by
 have n1:=putV_num 1 (by unfold i64ok;decide)
 have n2:=putV_num 2 (by unfold i64ok;decide)
 have n3:=putV_num 3 (by unfold i64ok;decide)
 have o1:i64ok 1:=by unfold i64ok;decide
 have o2:i64ok 2:=by unfold i64ok;decide
 have o3:i64ok 3:=by unfold i64ok;decide
 cases r with
 | add d=>
  obtain⟨h1,h2⟩:=h
  have hd:=putV_deed h2 h1
  refine⟨?_,?_,okV_row _ ?_⟩
  ·rw [mayV,decide_eq_true_eq,vRc,valD_may h1,cnt_row,cntL_cons,cnt_num,if_neg (by decide),cntL_cons,cnt_deed,if_neg (by decide),cntL]
   decide
  ·rw [vRc,valD_may h1,txt_row]
   simp only [putL,List.length_append,List.length_nil]
   omega
  ·simp only [okL]
   exact⟨okV_num _ o1,okV_valD h2 h1,trivial⟩
 | done n=>
  have h:i64ok n:=h
  have hd:=putV_num n h
  refine⟨?_,?_,okV_row _ ?_⟩
  ·rw [mayV,decide_eq_true_eq,vRc,cnt_row,cntL_cons,cnt_num,if_neg (by decide),cntL_cons,cnt_num,if_neg (by decide),cntL]
   decide
  ·rw [vRc,txt_row]
   simp only [putL,List.length_append,List.length_nil]
   omega
  ·simp only [okL]
   exact⟨okV_num _ o2,okV_num _ h,trivial⟩
 | enter n=>
  have h:i64ok n:=h
  have hd:=putV_num n h
  refine⟨?_,?_,okV_row _ ?_⟩
  ·rw [mayV,decide_eq_true_eq,vRc,cnt_row,cntL_cons,cnt_num,if_neg (by decide),cntL_cons,cnt_num,if_neg (by decide),cntL]
   decide
  ·rw [vRc,txt_row]
   simp only [putL,List.length_append,List.length_nil]
   omega
  ·simp only [okL]
   exact⟨okV_num _ o3,okV_num _ h,trivial⟩
theorem putS_rc {r:Rc} (h:r.Ok):putS (vRc r)=putV (vRc r):=by
 obtain⟨h1,h2,_⟩:=vRc_facts h
 exact putS_put h1 (by omega)
theorem putV_rc {r:Rc} (h:r.Ok):(putV (vRc r)).length<=1109:=by
 obtain⟨h1,h2,_⟩:=vRc_facts h
 have h3:=dec_len7 (u:=(txtV (vRc r)).length) (by omega)
 rw [putV_len]
 omega
theorem txtR_size {r:Rc} (h:r.Ok):(txtR r).size<=1109:=by
 show (putS (vRc r)).toArray.size<=_
 rw [List.size_toArray,putS_rc h]
 exact putV_rc h
theorem allV_rc {r:Rc} (h:r.Ok):allV (putS (vRc r))=(vRc r,0):=by
 obtain⟨h1,h2,h3⟩:=vRc_facts h
 rw [putS_rc h]
 exact allV_put _ h1 h3 (by omega)
def commitK (k:Known) (n:Int):Known × List Res:=
 (⟨foldS k.b (k.pend.take (n-k.b.seq).toNat),k.pend.drop (n-k.b.seq).toNat,k.ep,k.ln⟩,resS k.b (k.pend.take (n-k.b.seq).toNat))
def stepK (k:Known):Rc->Known
 | .add d=>⟨k.b,k.pend++[d],k.ep,k.ln⟩
 | .done n=>(commitK k n).1
 | .enter n=>⟨k.b,k.pend,max k.ep n,k.ln⟩
def canR (k:Known):Rc->Prop
 | .add d=>k.pend.length<60/\k.seq<maxN
 | .done n=>n<=k.seq
 | .enter n=>True
theorem Known.Ok.commit {k:Known} (h:k.Ok) (n:Int):(commitK k n).1.Ok:=by
 have hp:∀ d∈k.pend.take (n-k.b.seq).toNat,mayD d=true:=fun d hd=>(h.pend d (List.mem_of_mem_take hd)).1
 obtain⟨a,b,_⟩:=foldS_ok (k.pend.take (n-k.b.seq).toNat) h.may h.lows
 have hs:=h.seq
 have hlen:(k.pend.take (n-k.b.seq).toNat).length+(k.pend.drop (n-k.b.seq).toNat).length=k.pend.length:=by rw [<-List.length_append,List.take_append_drop]
 have e:=foldS_next (k.pend.take (n-k.b.seq).toNat) h.may h.lows hp (by omega)
 refine⟨a,b,fun d hd=>h.pend d (List.mem_of_mem_drop hd),?_,?_,h.ep,h.ln⟩
 ·have:=h.len
  show (k.pend.drop _).length<=60
  omega
 ·show (foldS k.b (k.pend.take (n-k.b.seq).toNat)).seq+((k.pend.drop (n-k.b.seq).toNat).length:Int)<=maxN
  rw [e]
  omega
theorem Known.Ok.step {k:Known} (h:k.Ok) {r:Rc} (hr:r.Ok) (hc:canR k r):(stepK k r).Ok:=by
 cases r with
 | add d=>
  obtain⟨h1,h2⟩:=hc
  unfold Known.seq at h2
  refine⟨h.may,h.lows,fun x hx=>?_,?_,?_,h.ep,h.ln⟩
  ·rcases List.mem_append.1 hx with hx | hx
   ·exact h.pend x hx
   ·rw [List.mem_singleton.1 hx]
    exact hr
  ·show (k.pend++[d]).length<=60
   rw [List.length_append]
   exact h1
  ·show k.b.seq+((k.pend++[d]).length:Int)<=maxN
   rw [List.length_append]
   simp only [List.length_cons,List.length_nil]
   omega
 | done n=>exact h.commit n
 | enter n=>
  refine⟨h.may,h.lows,h.pend,h.len,h.seq,?_,h.ln⟩
  have h1:=h.ep
  have h2:i64ok n:=hr
  unfold i64ok at*
  show -_<=max k.ep n/\max k.ep n<=_
  omega
def foldK (k:Known) (l:List Rc):Known:=l.foldl stepK k
theorem foldK_snoc (k:Known) (l:List Rc) (r:Rc):foldK k (l++[r])=stepK (foldK k l) r:=by
 unfold foldK
 rw [List.foldl_append]
 rfl
def Can:Known->List Rc->Prop
 | _,[]=>True
 | k,r::l=>r.Ok/\canR k r/\Can (stepK k r) l
theorem Can.ok:∀ {l:List Rc} {k:Known},k.Ok->Can k l->(foldK k l).Ok
 | [],k,hk,_=>hk
 | r::l,k,hk,⟨h1,h2,h3⟩=>Can.ok (l:=l) (hk.step h1 h2) h3
theorem Can.snoc:∀ {l:List Rc} {k:Known} {r:Rc},Can k l->r.Ok->canR (foldK k l) r->Can k (l++[r])
 | [],k,r,_,h1,h2=>⟨h1,h2,trivial⟩
 | x::l,k,r,⟨a,b,c⟩,h1,h2=>⟨a,b,Can.snoc c h1 h2⟩
theorem Can.take:∀ {l:List Rc} {k:Known} (i:Nat),Can k l->Can k (l.take i)
 | [],k,i,_=>by rw [List.take_nil];trivial
 | x::l,k,0,_=>trivial
 | x::l,k,i+1,⟨a,b,c⟩=>⟨a,b,Can.take i c⟩
theorem Can.mem:∀ {l:List Rc} {k:Known},Can k l->∀ r∈l,r.Ok
 | x::l,k,⟨a,b,c⟩,r,hr=>by
  cases hr with
  | head=>exact a
  | tail _ h=>exact Can.mem c r h
set_option maxRecDepth 100000
structure Sh where
 tot:Int
 first:ByteArray
 base:Known
 l:List Rc
 np:Nat
 kept:Bool
 down:Bool
def Sh.texts (H:Sh):List ByteArray:=H.first::H.l.map txtR
def Sh.txt (H:Sh):List UInt8:=leavesL H.texts
def Sh.room (H:Sh):Int:=H.tot-H.txt.length
def Sh.k (H:Sh):Known:=foldK H.base H.l
def Sh.scr (H:Sh):Scroll:=⟨⟨H.txt.toArray⟩,((leavesL (H.texts.take (1+H.np))).length:Nat),H.kept⟩
structure Sh.Ok (H:Sh):Prop where
 first:FirstOk H.first H.base
 can:Can H.base H.l
 np:H.np<=H.l.length
 tot:H.tot<=1048576
 room:0<=H.room
theorem Sh.Ok.k {H:Sh} (h:H.Ok):H.k.Ok:=Can.ok h.first.ok h.can
theorem Sh.Ok.size {H:Sh} (h:H.Ok):(H.txt.length:Int)<=1048576:=by
 have h1:=h.tot
 have h2:=h.room
 unfold Sh.room at h2
 omega
theorem Sh.Ok.sizes {H:Sh} (h:H.Ok):∀ x∈H.texts,x.size<=400000:=fun x hx=>by
 cases hx with
 | head=>have:=h.first.size;omega
 | tail _ hx=>
  obtain⟨r,hr,rfl⟩:=List.mem_map.1 hx
  have:=txtR_size (Can.mem h.can r hr)
  omega
theorem leavesL_take_le (l:List ByteArray) (i:Nat):(leavesL (l.take i)).length<=(leavesL l).length:=by
 have e:leavesL l=leavesL (l.take i)++leavesL (l.drop i):=by rw [<-leavesL_append,List.take_append_drop]
 rw [e,List.length_append]
 omega
theorem leavesL_snoc (l:List ByteArray) (s:ByteArray):leavesL (l++[s])=leavesL l++leafL s:=by
 rw [leavesL_append]
 show _++(leafL s++[])=_
 rw [List.append_nil]
def leafN (s:ByteArray):Int:=((leafL s).length:Nat)
theorem leafN_le (s:ByteArray) (h:s.size<=400000):10<=leafN s/\leafN s<=s.size+17:=by
 have h1:=leaf_pos s h
 have h2:=putV_str s (by omega)
 unfold leafN
 rw [leafL_eq s h,List.length_append,markL_len] at*
 omega
def Sh.write (H:Sh) (r:Rc) (press:Bool):Sh:=⟨H.tot,H.first,H.base,H.l++[r],if press then H.l.length+1 else H.np,H.kept||press,H.down⟩
def Sh.fell (H:Sh):Sh:=⟨H.tot,H.first,H.base,H.l,H.np,H.kept,true⟩
theorem Sh.write_texts (H:Sh) (r:Rc) (p:Bool):(H.write r p).texts=H.texts++[txtR r]:=by
 show H.first::(H.l++[r]).map txtR=H.first::H.l.map txtR++[txtR r]
 rw [List.map_append]
 rfl
theorem Sh.write_txt (H:Sh) (r:Rc) (p:Bool):(H.write r p).txt=H.txt++leafL (txtR r):=by
 unfold Sh.txt
 rw [Sh.write_texts,leavesL_snoc]
theorem Sh.write_room (H:Sh) (r:Rc) (p:Bool):(H.write r p).room=H.room-leafN (txtR r):=by
 unfold Sh.room leafN
 rw [Sh.write_txt,List.length_append]
 show H.tot-_=_
 omega
theorem Sh.write_k (H:Sh) (r:Rc) (p:Bool):(H.write r p).k=stepK H.k r:=foldK_snoc _ _ _
theorem Sh.Ok.write {H:Sh} (h:H.Ok) {r:Rc} (hr:r.Ok) (hc:canR H.k r) (p:Bool) (hroom:leafN (txtR r)<=H.room):(H.write r p).Ok:=by
 refine⟨h.first,Can.snoc h.can hr hc,?_,h.tot,?_⟩
 ·have:=h.np
  show (if p then H.l.length+1 else H.np)<=(H.l++[r]).length
  rw [List.length_append]
  simp only [List.length_cons,List.length_nil]
  split<;>omega
 ·rw [Sh.write_room]
  omega
theorem Sh.Ok.fell {H:Sh} (h:H.Ok):H.fell.Ok:=⟨h.first,h.can,h.np,h.tot,h.room⟩
theorem Sh.write_pressed {H:Sh} (h:H.Ok) (r:Rc) (p:Bool):((H.write r p).scr).pressed=if p then ((H.txt++leafL (txtR r)).length:Int) else H.scr.pressed:=by
 show ((leavesL ((H.write r p).texts.take (1+if p then H.l.length+1 else H.np))).length:Int)=_
 rw [Sh.write_texts]
 have hlen:H.texts.length=H.l.length+1:=by
  show (H.first::H.l.map txtR).length=_
  rw [List.length_cons,List.length_map]
 cases p with
 | true=>
  rw [if_pos rfl,if_pos rfl,List.take_of_length_le (by rw [List.length_append,hlen];simp only [List.length_cons,List.length_nil];omega),leavesL_snoc]
  rfl
 | false=>
  have:=h.np
  rw [if_neg (by decide),if_neg (by decide),List.take_append_of_le_length (by omega)]
  rfl
theorem Sh.scr_le {H:Sh}:0<=H.scr.pressed/\H.scr.pressed<=H.txt.length:=by
 have:=leavesL_take_le H.texts (1+H.np)
 show 0<=((leavesL (H.texts.take (1+H.np))).length:Int)/\((leavesL (H.texts.take (1+H.np))).length:Int)<=((leavesL H.texts).length:Int)
 omega
def Sh.lay (H:Sh) (k:Known):Sh:=⟨H.tot,⟨(textK k).toArray⟩,k,[],0,true,H.down⟩
theorem Sh.lay_txt (H:Sh) (k:Known):(H.lay k).txt=leafL ⟨(textK k).toArray⟩:=by
 show leafL ⟨(textK k).toArray⟩++[]=_
 rw [List.append_nil]
theorem Sh.Ok.lay {H:Sh} (h:H.Ok) {k:Known} (hk:k.Ok) (hroom:leafN ⟨(textK k).toArray⟩<=H.room):(H.lay k).Ok:=by
 refine⟨.inr ⟨rfl,hk⟩,trivial,Nat.le_refl _,h.tot,?_⟩
 show 0<=H.tot-((H.lay k).txt.length:Int)
 rw [Sh.lay_txt]
 unfold Sh.room leafN at hroom
 omega
def Sh.cut (H:Sh) (i:Nat):Sh:=⟨H.tot,H.first,H.base,H.l.take i,i,true,false⟩
theorem Sh.cut_texts (H:Sh) (i:Nat):(H.cut i).texts=H.texts.take (i+1):=by
 show H.first::(H.l.take i).map txtR=(H.first::H.l.map txtR).take (i+1)
 rw [List.take_succ_cons,List.map_take]
theorem Sh.Ok.cut {H:Sh} (h:H.Ok) (i:Nat) (hi:i<=H.l.length):(H.cut i).Ok:=by
 refine⟨h.first,h.can.take i,?_,h.tot,?_⟩
 ·show i<=(H.l.take i).length
  rw [List.length_take]
  omega
 ·have:=leavesL_take_le H.texts (i+1)
  have h2:=h.room
  show 0<=H.tot-((leavesL (H.cut i).texts).length:Int)
  rw [Sh.cut_texts]
  unfold Sh.room Sh.txt at h2
  omega
theorem Sh.tear {H:Sh} (h:H.Ok) (n:Nat) (hn:H.scr.pressed<=n):∃ i,H.np<=i/\i<=H.l.length/\Splits (H.txt.take n) (H.first::(H.cut i).l.map txtR) (H.cut i).txt.length/\(H.cut i).txt=(H.txt.take n).take (H.cut i).txt.length/\(H.cut i).txt.length<=(H.txt.take n).length:=by
 obtain⟨m,p,h1,h2,h3,h4,h5⟩:=leaves_take H.texts n h.sizes
 have hlen:H.texts.length=H.l.length+1:=by
  show (H.first::H.l.map txtR).length=_
  rw [List.length_cons,List.length_map]
 have hnp:=h5 (1+H.np) (by have:=h.np;omega) (by
  have hn:((leavesL (H.texts.take (1+H.np))).length:Int)<=n:=hn
  omega)
 obtain⟨i,rfl⟩:∃ i,m=i+1:=⟨m-1,by omega⟩
 have et:(H.cut i).txt=leavesL (H.texts.take (i+1)):=by
  unfold Sh.txt
  rw [Sh.cut_texts]
 have e2:H.txt.take n=(H.cut i).txt++p:=by rw [et];exact h2
 have ef:H.first::(H.cut i).l.map txtR=(H.cut i).texts:=rfl
 refine⟨i,by omega,by omega,?_,?_,?_⟩
 ·rw [e2,ef]
  have hs:=Splits.leaves (H.cut i).texts p (fun x hx=>h.sizes x (by rw [Sh.cut_texts] at hx;exact List.mem_of_mem_take hx)) h3
  exact hs
 ·rw [e2,List.take_left' rfl]
 ·rw [e2,List.length_append]
  omega
end Go.Proofs.YtokglimimnelaaaGreatDoor
