import Derived.Test.YtfekddndgakneaaGreatDoorM10
set_option maxRecDepth 100000
set_option maxHeartbeats 40000000
set_option linter.unusedVariables false
set_option linter.unusedSimpArgs false
namespace Go.Proofs.YtfekddndgakneaaGreatDoor
open Go.Vc Go.RowKit Go.Fl Go.ChangeShapes Go.WideShapes Go.ChangeAt
structure Jour where
 C:Chest
 first:ByteArray
 recs:List ByteArray
 down:Bool
def A2N (gc:Nat) (first:ByteArray) (A:Option Addr) (n cap:Nat) (down:Bool):List Value:=[.pointer (some ⟨gc,0,none⟩),.string first,.slice A n cap,.bool down]
def JourK (gj gc b:Nat) (J:Jour):Kn:=fun S w=>∃ A cap,ObjK gj 215 (A2N gc J.first A J.recs.length cap J.down) (RecK 9 A J.recs.length cap (J.recs.map Value.string)) (ChestK gc b J.C) S w
theorem JourK.stab (gj gc b:Nat) (J:Jour):Stab (JourK gj gc b J):=fun S w S' w' h f=>by
 obtain⟨A,cap,h⟩:=h
 exact⟨A,cap,ObjK.stab (RecK.stab _ _ _ _ _) (ChestK.stab _ _ _) _ _ _ _ h f⟩
theorem JourK.chest {gj gc b:Nat} {J:Jour} {S:Nat->Prop} {w:World} (h:JourK gj gc b J S w):ChestK gc b J.C S w:=by
 obtain⟨A,cap,h⟩:=h
 exact h.right (ChestK.stab _ _ _)
theorem JourK.leave {gj gc b n cap:Nat} {first:ByteArray} {A:Option Addr} {down:Bool} {recs:List ByteArray} {C:Chest} {xs:List Value} {Sx S:Nat->Prop} {w w':World}
  (hc:CtxF no (bare w) S w' [(gj,215,A2N gc first A n cap down)] [] (Sep 0 (Sep 0 (Keep w Sx) (RecK 9 A n cap xs)) (ChestK gc b C))) (hx:xs=recs.map Value.string) (hn:n=recs.length) (v:Value):RetOb Sx w v (JourK gj gc b ⟨C,first,recs,down⟩) (.returned v) w':=by
 subst hx
 subst hn
 obtain⟨h1,h2,Sn,h3,h4⟩:=ObjK.leave hc v
 exact⟨h1,h2,Sn,h3,A,cap,h4⟩
theorem A72 (g:Nat) (ox oy:Operand) (w:World):(do eqGuard BinOp.eql 177 ox oy (.pointer (some ⟨g,0,none⟩)) (.pointer none);Go.binOp BinOp.eql 177 (.pointer (some ⟨g,0,none⟩)) (.pointer none):Sem Value).run Tryz.prog w=.ok (.bool false) w:=by kernel_rfl
def L6:ByteArray:=⟨#[76,79,71]⟩
def A0a:ByteArray:=⟨#[78,69,87]⟩
def chL (room:Int) (r:Scroll):Chest:=⟨room,c3f L6 r,1⟩
def chN (room:Int) (r rn:Scroll):Chest:=⟨room,A2b (c3f L6 r) A0a rn,2⟩
theorem B8z:A3e L6=true:=by kernel_rfl
theorem B9Y:A3e A0a=true:=by kernel_rfl
theorem A3r:A0a≠L6:=by decide
theorem B2b (x:ByteArray) (s:Scroll):c3f x s x=some s:=if_pos rfl
theorem B2c {x y:ByteArray} (s:Scroll) (h:y≠x):c3f x s y=none:=if_neg h
theorem A5g (x:ByteArray) (r s:Scroll):A2b (c3f x r) x s=c3f x s:=by
 funext y
 unfold A2b c3f A2b
 split<;>rfl
theorem Q5 (room:Int) (r:Scroll):(chL room r).f L6=some r:=by
 show c3f L6 r L6=some r
 exact B2b _ _
theorem A5h (room:Int) (r:Scroll) {y:ByteArray} (h:y≠L6):(chL room r).f y=none:=by
 show c3f L6 r y=none
 exact B2c _ h
theorem A5i (room:Int) (r rn:Scroll):(chN room r rn).f A0a=some rn:=by
 show (if A0a=A0a then some rn else c3f L6 r A0a)=some rn
 exact if_pos rfl
theorem A73 (room:Int) (r rn:Scroll):(chN room r rn).f L6=some r:=by
 show (if L6=A0a then some rn else c3f L6 r L6)=some r
 rw [if_neg (Ne.symm A3r),B2b]
theorem B2d (room:Int) (r:Scroll) (s:ByteArray):N0 (chL room r) L6 s=if room<(s.size:Int) then (chL room r,5) else (chL (room-s.size) ⟨r.s++s,r.pressed,r.kept⟩,0):=by
 unfold N0
 rw [if_pos B8z,Q5]
 show (if room<(s.size:Int) then _ else _)=_
 by_cases h:room<(s.size:Int)
 ·rw [if_pos h,if_pos h]
 ·rw [if_neg h,if_neg h]
  have e2:A4d (chL room r).f (chL room r).k L6=1:=by
   unfold A4d
   rw [Q5]
   rfl
  rw [e2]
  show (Chest.mk (room-s.size) (A2b (c3f L6 r) L6 _) 1,(0:Int))=_
  rw [A5g]
  rfl
theorem A6s (room:Int) (r:Scroll):A0z (chL room r) L6=(chL room ⟨r.s,r.s.size,true⟩,0):=by
 unfold A0z
 rw [Q5]
 have e2:A4d (chL room r).f (chL room r).k L6=1:=by
  unfold A4d
  rw [Q5]
  rfl
 simp only
 rw [e2]
 show (Chest.mk room (A2b (c3f L6 r) L6 _) 1,(0:Int))=_
 rw [A5g]
 rfl
theorem B2e (room:Int) (r:Scroll) (s:ByteArray):N0 (chL room r) A0a s=if room<(s.size:Int) then (chL room r,5) else (chN (room-s.size) r ⟨⟨#[]⟩++s,0,false⟩,0):=by
 unfold N0
 rw [if_pos B9Y,A5h _ _ A3r]
 show (if room<(s.size:Int) then _ else _)=_
 by_cases h:room<(s.size:Int)
 ·rw [if_pos h,if_pos h]
 ·rw [if_neg h,if_neg h]
  have e2:A4d (chL room r).f (chL room r).k A0a=2:=by
   unfold A4d
   rw [A5h _ _ A3r]
   rfl
  rw [e2]
  rfl
theorem B2f (room:Int) (r rn:Scroll):A0z (chN room r rn) A0a=(chN room r ⟨rn.s,rn.s.size,true⟩,0):=by
 unfold A0z
 rw [A5i]
 have e1:A4d (chN room r rn).f (chN room r rn).k A0a=2:=by
  unfold A4d
  rw [A5i]
  rfl
 have e2:A2b (chN room r rn).f A0a ⟨rn.s,rn.s.size,true⟩=A2b (c3f L6 r) A0a ⟨rn.s,rn.s.size,true⟩:=by
  funext y
  show (if y=A0a then _ else (if y=A0a then _ else _))=(if y=A0a then _ else _)
  split<;>rfl
 simp only
 rw [e1,e2]
 rfl
theorem B4a (room:Int) (r rn:Scroll):A0X (chN room r rn) A0a L6=(chL (room+r.s.size) ⟨rn.s,rn.pressed,true⟩,0):=by
 have e4:(B5P (chN room r rn).f A0a) L6=some r:=by
  show (if L6=A0a then none else (chN room r rn).f L6)=some r
  rw [if_neg (Ne.symm A3r),A73]
 have e3:A2b (B5P (chN room r rn).f A0a) L6 ⟨rn.s,rn.pressed,true⟩=c3f L6 ⟨rn.s,rn.pressed,true⟩:=by
  funext y
  show (if y=L6 then _ else (if y=A0a then none else (if y=A0a then _ else (if y=L6 then _ else none))))=(if y=L6 then _ else none)
  by_cases h1:y=L6
  ·rw [if_pos h1,if_pos h1]
  ·rw [if_neg h1,if_neg h1]
   by_cases h2:y=A0a
   ·rw [if_pos h2,if_neg h1]
   ·rw [if_neg h2,if_neg h2,if_neg h1]
 have e5:A4d (B5P (chN room r rn).f A0a) (B5Q (chN room r rn).f (chN room r rn).k A0a) L6=1:=by
  unfold A4d B5Q
  rw [e4,A5i]
  rfl
 unfold A0X
 rw [if_pos B8z,A5i]
 simp only
 rw [if_neg A3r,A73,e3,e5]
 rfl
theorem B2g (room:Int) (r:Scroll) (to:ByteArray) (h:A3e to=true):A0X (chL room r) A0a to=(chL room r,6):=by
 unfold A0X
 rw [if_pos h,A5h _ _ A3r]
theorem A0m (gj gc b:Nat) (J:Jour) (e:Int) (Sx:Nat->Prop) (w:World) (hlt:∀ x,Sx x->x<w.heap.size) (hK:JourK gj gc b J Sx w):
  Calls Tryz.prog 208 #[.pointer (some ⟨gj,0,none⟩),.int .i64 e] w (RetOb Sx w (.int .i64 e) (JourK gj gc b ⟨J.C,J.first,J.recs,J.down||e != 0⟩)):=by
 obtain⟨A,cap,hO⟩:=hK
 have hc:=hO.enter hlt (RecK.stab _ _ _ _ _) (ChestK.stab _ _ _)
 refine vE Tryz.func208 ?_
 refine hc.c 0 rfl rfl ?_
 obtain⟨C,first,recs,down⟩:=J
 cases down with
 | true=>
  refine hc.s 0 rfl fun wS hS hc=>?_
  exact JourK.leave hc rfl rfl _
 | false=>
  refine hc.s 0 rfl fun wS hS hc=>?_
  exact JourK.leave hc rfl rfl _
def Z0 (C:Chest) (name s:ByteArray):Chest × Int:=if (N0 C name s).2=0 then A0z (N0 C name s).1 name else N0 C name s
theorem A4m (gj gc b:Nat) (J:Jour) (name s:ByteArray) (hto:name.size<=9223372036854775807) (hr : -1000000000000<=J.C.room/\J.C.room<=1000000000000) (hs:s.size<=1000000000000) (hl:((J.C.f name).getD sc0).s.size<=1000000000000) (hkk:J.C.k<999999) (Sx:Nat->Prop) (w:World) (hlt:∀ x,Sx x->x<w.heap.size) (hK:JourK gj gc b J Sx w):
  Calls Tryz.prog 173 #[.pointer (some ⟨gj,0,none⟩),.string name,.string s] w (RetOb Sx w (.int .i64 (Z0 J.C name s).2) (JourK gj gc b ⟨(Z0 J.C name s).1,J.first,J.recs,J.down⟩)):=by
 obtain⟨A,cap,hO⟩:=hK
 have hc:=hO.enter hlt (RecK.stab _ _ _ _ _) (ChestK.stab _ _ _)
 have hk2:(N0 J.C name s).1.k<1000000:=by
  unfold N0
  split
  ·split
   ·show J.C.k<_
    omega
   ·show A4d _ _ _<_
    unfold A4d
    split<;>omega
  ·show J.C.k<_
   omega
 refine vE Tryz.func173 ?_
 refine hc.c 0 rfl rfl ?_
 obtain⟨S1,Sa,h1,h2,h3,hO⟩:=hc.row
 refine⟨(A0W gc b J.C name s hto hr hs hl (by omega) Sa _ hO).mono fun en wq hq=>?_⟩
 obtain⟨e1,hT,Sn,hSn,hO⟩:=hq
 have hc:=hc.turnO (Sep.stab (Keep.stab _ _) (RecK.stab _ _ _ _ _)) h1 h2 h3 hT hSn hO (ChestK.stab _ _ _)
 refine⟨_,e1,?_⟩
 unfold Z0
 generalize N0 J.C name s=q at*
 obtain⟨C',e⟩:=q
 simp only at*
 by_cases h0:e=0
 ·subst h0
  rw [if_pos rfl]
  refine hc.c 0 rfl rfl ?_
  obtain⟨S1,Sa,h1,h2,h3,hO⟩:=hc.row
  refine⟨(A3i gc b C' name hto hk2 Sa _ hO).mono fun en wq hq=>?_⟩
  obtain⟨e1,hT,Sn,hSn,hO⟩:=hq
  have hc:=hc.turnO (Sep.stab (Keep.stab _ _) (RecK.stab _ _ _ _ _)) h1 h2 h3 hT hSn hO (ChestK.stab _ _ _)
  refine⟨_,e1,?_⟩
  exact JourK.leave hc rfl rfl _
 ·rw [if_neg h0]
  refine B6 (by simpa using h0) ?_
  exact JourK.leave hc rfl rfl _
def JL (room:Int) (r:Scroll) (first:ByteArray) (recs:List ByteArray) (down:Bool):Jour:=⟨chL room r,first,recs,down⟩
def B5S (room:Int) (r:Scroll) (first:ByteArray) (recs:List ByteArray) (down:Bool):Jour × Int:=if down then (JL room r first recs true,7) else (JL room ⟨r.s,r.s.size,true⟩ first recs false,0)
theorem A9z (gj gc b:Nat) (room:Int) (r:Scroll) (first:ByteArray) (recs:List ByteArray) (down:Bool) (Sx:Nat->Prop) (w:World) (hlt:∀ x,Sx x->x<w.heap.size) (hK:JourK gj gc b (JL room r first recs down) Sx w):
  Calls Tryz.prog 209 #[.pointer (some ⟨gj,0,none⟩)] w (RetOb Sx w (.int .i64 (B5S room r first recs down).2) (JourK gj gc b (B5S room r first recs down).1)):=by
 obtain⟨A,cap,hO⟩:=hK
 have hc:=hO.enter hlt (RecK.stab _ _ _ _ _) (ChestK.stab _ _ _)
 refine vE Tryz.func209 ?_
 refine⟨.bool false,fun w=>A72 gj _ _ w,?_⟩
 refine hc.c 0 rfl rfl ?_
 cases down with
 | true=>exact JourK.leave hc rfl rfl _
 | false=>
  refine hc.c 0 rfl rfl ?_
  have hp:=fun Sa w hK=>A3i gc b (chL room r) L6 (by decide) (by show 1<1000000;decide) Sa w hK
  rw [A6s] at hp
  obtain⟨S1,Sa,h1,h2,h3,hO⟩:=hc.row
  refine⟨(hp Sa _ hO).mono fun en wq hq=>?_⟩
  obtain⟨e1,hT,Sn,hSn,hO⟩:=hq
  have hc:=hc.turnO (Sep.stab (Keep.stab _ _) (RecK.stab _ _ _ _ _)) h1 h2 h3 hT hSn hO (ChestK.stab _ _ _)
  refine⟨_,e1,?_⟩
  obtain⟨Sm,hm0,hkp,hm1,hag⟩:=hc.again
  refine⟨(A0m gj gc b ⟨chL room ⟨r.s,r.s.size,true⟩,first,recs,false⟩ 0 Sm _ hm0 ⟨_,_,hm1⟩).mono fun en wq hq=>?_⟩
  obtain⟨e1,hT,Sn,hSn,A2,cap2,hO⟩:=hq
  obtain⟨S2,hc⟩:=hag hT hSn hO (RecK.stab _ _ _ _ _) (ChestK.stab _ _ _)
  refine⟨_,e1,?_⟩
  exact JourK.leave hc rfl rfl _
def G8 (s:ByteArray):ByteArray:=⟨(H9 s).toArray⟩
theorem W8 (s:ByteArray):((G8 s).size:Int)=E9 s:=by
 show ((H9 s).toArray.size:Int)=_
 rw [List.size_toArray]
 rfl
def B5T (room:Int) (r:Scroll) (first:ByteArray) (recs:List ByteArray) (down:Bool) (s:ByteArray) (press:Bool):Jour × Int:=
 if down then (JL room r first recs true,7)
 else if (400000:Int)<(s.size:Int) then (JL room r first recs false,1)
 else if room<E9 s then (JL room r first recs true,5)
 else if press then (JL (room-E9 s) ⟨r.s++G8 s,(r.s++G8 s).size,true⟩ first (recs++[s]) false,0)
 else (JL (room-E9 s) ⟨r.s++G8 s,r.pressed,r.kept⟩ first (recs++[s]) false,0)
theorem A4n (s:ByteArray) (h:s.size<=400000):C8 (G8 s) ⟨#[]⟩=false:=by
 rw [<-Bool.not_eq_true,C5]
 intro e
 have h1:=W8 s
 have h2:=(A5e s h).1
 rw [e] at h1
 have:((⟨#[]⟩:ByteArray).size:Int)=0:=rfl
 omega
theorem A5j (gj gc b:Nat) (room:Int) (r:Scroll) (first:ByteArray) (recs:List ByteArray) (down:Bool) (s:ByteArray) (press:Bool) (hs:s.size<=1000000000) (hr:0<=room/\room<=1000000000) (hl:r.s.size<=1000000000) (hn:recs.length<=1000000) (Sx:Nat->Prop) (w:World) (hlt:∀ x,Sx x->x<w.heap.size) (he:EnvFree Sx w) (hK:JourK gj gc b (JL room r first recs down) Sx w):
  Calls Tryz.prog 178 #[.pointer (some ⟨gj,0,none⟩),.string s,.bool press] w (RetOb Sx w (.int .i64 (B5T room r first recs down s press).2) (JourK gj gc b (B5T room r first recs down s press).1)):=by
 obtain⟨q,hq⟩:∃ q,q=B5T room r first recs down s press:=⟨_,rfl⟩
 rw [<-hq]
 unfold B5T at hq
 obtain⟨A,cap,hO⟩:=hK
 have hc:=hO.enter hlt (RecK.stab _ _ _ _ _) (ChestK.stab _ _ _)
 refine vE Tryz.func178 ?_
 refine⟨.bool false,fun w=>A72 gj _ _ w,?_⟩
 refine hc.c 0 rfl rfl ?_
 cases down with
 | true=>
  rw [if_pos rfl] at hq
  subst hq
  exact JourK.leave hc rfl rfl _
 | false=>
 rw [if_neg (by decide)] at hq
 refine hc.q (A1l s (by omega) _ (he.now hc)) fun wQ hQ hc=>?_
 by_cases h4:(400000:Int)<(s.size:Int)
 ·rw [if_pos h4] at hq
  subst hq
  have e:H9 s=[]:=by unfold H9;rw [if_pos h4]
  rw [e]
  exact JourK.leave hc rfl rfl _
 rw [if_neg h4] at hq
 have h17:=A5e s (by omega)
 refine B4 (A4n s (by omega)) ?_
 refine hc.c 0 rfl rfl ?_
 have hsz:=W8 s
 have hwr:=fun Sa w hK=>A0W gc b (chL room r) L6 (G8 s) (by decide) ⟨by show _<=room;omega,by show room<=_;omega⟩ (by omega) (by show (((c3f L6 r) L6).getD sc0).s.size<=_;rw [B2b];show r.s.size<=_;omega) (by show 1<1000000;decide) Sa w hK
 rw [B2d,hsz] at hwr
 by_cases h5:room<E9 s
 ·rw [if_pos h5] at hq hwr
  obtain⟨S1,Sa,h1,h2,h3,hO⟩:=hc.row
  refine⟨(hwr Sa _ hO).mono fun en wq hq=>?_⟩
  obtain⟨e1,hT,Sn,hSn,hO⟩:=hq
  have hc:=hc.turnO (Sep.stab (Keep.stab _ _) (RecK.stab _ _ _ _ _)) h1 h2 h3 hT hSn hO (ChestK.stab _ _ _)
  refine⟨_,e1,?_⟩
  obtain⟨Sm,hm0,hkp,hm1,hag⟩:=hc.again
  refine⟨(A0m gj gc b ⟨chL room r,first,recs,false⟩ 5 Sm _ hm0 ⟨_,_,hm1⟩).mono fun en wq hq=>?_⟩
  obtain⟨e1,hT,Sn,hSn,A2,cap2,hO⟩:=hq
  obtain⟨S2,hc⟩:=hag hT hSn hO (RecK.stab _ _ _ _ _) (ChestK.stab _ _ _)
  refine⟨_,e1,?_⟩
  subst hq
  exact JourK.leave hc rfl rfl _
 rw [if_neg h5] at hq hwr
 obtain⟨S1,Sa,h1,h2,h3,hO⟩:=hc.row
 refine⟨(hwr Sa _ hO).mono fun en wq hq=>?_⟩
 obtain⟨e1,hT,Sn,hSn,hO⟩:=hq
 have hc:=hc.turnO (Sep.stab (Keep.stab _ _) (RecK.stab _ _ _ _ _)) h1 h2 h3 hT hSn hO (ChestK.stab _ _ _)
 refine⟨_,e1,?_⟩
 obtain⟨Sm,hm0,hkp,hm1,hag⟩:=hc.again
 refine⟨(A0m gj gc b ⟨chL (room-E9 s) ⟨r.s++G8 s,r.pressed,r.kept⟩,first,recs,false⟩ 0 Sm _ hm0 ⟨_,_,hm1⟩).mono fun en wq hq=>?_⟩
 obtain⟨e1,hT,Sn,hSn,A2,cap2,hO⟩:=hq
 obtain⟨S2,hc⟩:=hag hT hSn hO (RecK.stab _ _ _ _ _) (ChestK.stab _ _ _)
 refine⟨_,e1,?_⟩
 refine hc.c 0 rfl rfl ?_
 refine hc.n fun gv wgv hgv hc=>?_
 have hc:=hc.now Sep.swap (Sep.stab (Sep.stab (Keep.stab _ _) (ChestK.stab _ _ _)) (RecK.stab _ _ _ _ _))
 refine B2T (m:=1) Tryz.underlying83 A4e rfl hc (Sep.stab (Keep.stab _ _) (ChestK.stab _ _ _)) (hc.cells 0 rfl) rfl (by decide) rfl (by show recs.length+1<=_;omega) (by decide) ?_
 intro A3 cap3 w3 S3 hc
 have hc:=hc.drop.now Sep.swap (Sep.stab (Sep.stab (Keep.stab _ _) (RecK.stab _ _ _ _ _)) (ChestK.stab _ _ _))
 refine hc.s 0 rfl fun wS hS hc=>?_
 cases press with
 | false=>
  subst hq
  exact JourK.leave hc (by rw [List.map_append];rfl) (by rw [List.length_append];rfl) _
 | true=>
  obtain⟨Sm,hm0,hkp,hm1,hag⟩:=hc.again
  have hJ:JourK gj gc b (JL (room-E9 s) ⟨r.s++G8 s,r.pressed,r.kept⟩ first (recs++[s]) false) Sm _:=⟨A3,cap3,by
   have e1:(recs++[s]).length=recs.length+1:=by simp
   have e2:(recs++[s]).map Value.string=recs.map Value.string++[Value.string s]:=by simp
   show ObjK gj _ (A2N gc first A3 (recs++[s]).length cap3 false) (RecK _ A3 (recs++[s]).length cap3 ((recs++[s]).map Value.string)) (ChestK gc b _) Sm _
   rw [e1,e2]
   exact hm1⟩
  refine⟨(A9z gj gc b (room-E9 s) ⟨r.s++G8 s,r.pressed,r.kept⟩ first (recs++[s]) false Sm _ hm0 hJ).mono fun en wq hq2=>?_⟩
  obtain⟨e1,hT,Sn,hSn,A2,cap2,hO⟩:=hq2
  obtain⟨S2,hc⟩:=hag hT hSn hO (RecK.stab _ _ _ _ _) (ChestK.stab _ _ _)
  refine⟨_,e1,?_⟩
  subst hq
  exact JourK.leave hc rfl rfl _
def B8A (room:Int) (r:Scroll) (first:ByteArray) (recs:List ByteArray) (down:Bool) (s:ByteArray):Jour × Int:=
 if down then (JL room r first recs true,7)
 else if (400000:Int)<(s.size:Int) then (JL room r first recs false,1)
 else if room<E9 s then (JL room r first recs true,5)
 else (JL (room-E9 s+r.s.size) ⟨G8 s,E9 s,true⟩ s [] false,0)
theorem B4b (gj gc b:Nat) (room:Int) (r:Scroll) (first:ByteArray) (recs:List ByteArray) (down:Bool) (s:ByteArray) (hs:s.size<=1000000000) (hr:0<=room/\room<=1000000000) (hl:r.s.size<=1000000000) (Sx:Nat->Prop) (w:World) (hlt:∀ x,Sx x->x<w.heap.size) (he:EnvFree Sx w) (hK:JourK gj gc b (JL room r first recs down) Sx w):
  Calls Tryz.prog 181 #[.pointer (some ⟨gj,0,none⟩),.string s] w (RetOb Sx w (.int .i64 (B8A room r first recs down s).2) (JourK gj gc b (B8A room r first recs down s).1)):=by
 obtain⟨q,hq⟩:∃ q,q=B8A room r first recs down s:=⟨_,rfl⟩
 rw [<-hq]
 unfold B8A at hq
 obtain⟨A,cap,hO⟩:=hK
 have hc:=hO.enter hlt (RecK.stab _ _ _ _ _) (ChestK.stab _ _ _)
 refine vE Tryz.func181 ?_
 refine⟨.bool false,fun w=>A72 gj _ _ w,?_⟩
 refine hc.c 0 rfl rfl ?_
 cases down with
 | true=>
  rw [if_pos rfl] at hq
  subst hq
  exact JourK.leave hc rfl rfl _
 | false=>
 rw [if_neg (by decide)] at hq
 refine hc.q (A1l s (by omega) _ (he.now hc)) fun wQ hQ hc=>?_
 by_cases h4:(400000:Int)<(s.size:Int)
 ·rw [if_pos h4] at hq
  subst hq
  have e:H9 s=[]:=by unfold H9;rw [if_pos h4]
  rw [e]
  exact JourK.leave hc rfl rfl _
 rw [if_neg h4] at hq
 have h17:=A5e s (by omega)
 refine B4 (A4n s (by omega)) ?_
 have hsz:=W8 s
 have hwr:=fun Sx w hlt hK=>A4m gj gc b (JL room r first recs false) A0a (G8 s) (by decide) ⟨by show _<=room;omega,by show room<=_;omega⟩ (by omega) (by show (((c3f L6 r) A0a).getD sc0).s.size<=_;rw [B2c _ A3r];decide) (by show 1<999999;decide) Sx w hlt hK
 have ew:Z0 (JL room r first recs false).C A0a (G8 s)=if room<E9 s then (chL room r,5) else (chN (room-E9 s) r ⟨G8 s,E9 s,true⟩,0):=by
  show Z0 (chL room r) A0a (G8 s)=_
  unfold Z0
  rw [B2e,hsz]
  by_cases h5:room<E9 s
  ·rw [if_pos h5,if_pos h5]
   rfl
  ·have e0:(⟨#[]⟩:ByteArray)++G8 s=G8 s:=ByteArray.empty_append
   rw [if_neg h5,if_neg h5,if_pos rfl,B2f]
   simp only
   rw [e0,hsz]
 rw [ew] at hwr
 by_cases h5:room<E9 s
 ·rw [if_pos h5] at hq hwr
  obtain⟨Sm,hm0,hkp,hm1,hag⟩:=hc.again
  refine⟨(hwr Sm _ hm0 ⟨_,_,hm1⟩).mono fun en wq hq=>?_⟩
  obtain⟨e1,hT,Sn,hSn,A2,cap2,hO⟩:=hq
  obtain⟨S2,hc⟩:=hag hT hSn hO (RecK.stab _ _ _ _ _) (ChestK.stab _ _ _)
  refine⟨_,e1,?_⟩
  obtain⟨Sm,hm0,hkp,hm1,hag⟩:=hc.again
  refine⟨(A0m gj gc b ⟨chL room r,first,recs,false⟩ 5 Sm _ hm0 ⟨_,_,hm1⟩).mono fun en wq hq=>?_⟩
  obtain⟨e1,hT,Sn,hSn,A2,cap2,hO⟩:=hq
  obtain⟨S2,hc⟩:=hag hT hSn hO (RecK.stab _ _ _ _ _) (ChestK.stab _ _ _)
  refine⟨_,e1,?_⟩
  subst hq
  exact JourK.leave hc rfl rfl _
 rw [if_neg h5] at hq hwr
 obtain⟨Sm,hm0,hkp,hm1,hag⟩:=hc.again
 refine⟨(hwr Sm _ hm0 ⟨_,_,hm1⟩).mono fun en wq hq=>?_⟩
 obtain⟨e1,hT,Sn,hSn,A2,cap2,hO⟩:=hq
 obtain⟨S2,hc⟩:=hag hT hSn hO (RecK.stab _ _ _ _ _) (ChestK.stab _ _ _)
 refine⟨_,e1,?_⟩
 obtain⟨Sm,hm0,hkp,hm1,hag⟩:=hc.again
 refine⟨(A0m gj gc b ⟨chN (room-E9 s) r ⟨G8 s,E9 s,true⟩,first,recs,false⟩ 0 Sm _ hm0 ⟨_,_,hm1⟩).mono fun en wq hq=>?_⟩
 obtain⟨e1,hT,Sn,hSn,A2,cap2,hO⟩:=hq
 obtain⟨S2,hc⟩:=hag hT hSn hO (RecK.stab _ _ _ _ _) (ChestK.stab _ _ _)
 refine⟨_,e1,?_⟩
 refine hc.s 0 rfl fun wS hS hc=>?_
 refine hc.s 0 rfl fun wS hS hc=>?_
 refine hc.c 0 rfl rfl ?_
 have hc:CtxF _ _ _ _ _ _ (Sep 0 (Sep 0 (Keep w Sx) (RecK 9 none 0 0 [])) (ChestK gc b (chN (room-E9 s) r ⟨G8 s,E9 s,true⟩))):=hc.now (fun h=>by
  obtain⟨S1,So,h1,h2,⟨Sk,Sr,k1,k2,k3,k4⟩,h4⟩:=h
  exact⟨S1,So,h1,h2,⟨Sk,Sr,k1,k2,k3,RecK.nil _ _ _⟩,h4⟩) (Sep.stab (Sep.stab (Keep.stab _ _) (RecK.stab _ _ _ _ _)) (ChestK.stab _ _ _))
 have hcl:=fun Sa w hK=>A2x gc b (chN (room-E9 s) r ⟨G8 s,E9 s,true⟩) A0a L6 (by decide) (by decide) ⟨by show _<=room-E9 s;omega,by show room-E9 s<=_;omega⟩ (by
  rw [A73]
  show r.s.size<=_
  omega) (by show 2<1000000;decide) Sa w hK
 rw [B4a] at hcl
 obtain⟨S1,Sa,h1,h2,h3,hO⟩:=hc.row
 refine⟨(hcl Sa _ hO).mono fun en wq hq=>?_⟩
 obtain⟨e1,hT,Sn,hSn,hO⟩:=hq
 have hc:=hc.turnO (Sep.stab (Keep.stab _ _) (RecK.stab _ _ _ _ _)) h1 h2 h3 hT hSn hO (ChestK.stab _ _ _)
 refine⟨_,e1,?_⟩
 obtain⟨Sm,hm0,hkp,hm1,hag⟩:=hc.again
 refine⟨(A0m gj gc b ⟨chL (room-E9 s+r.s.size) ⟨G8 s,E9 s,true⟩,s,[],false⟩ 0 Sm _ hm0 ⟨_,_,hm1⟩).mono fun en wq hq=>?_⟩
 obtain⟨e1,hT,Sn,hSn,A2,cap2,hO⟩:=hq
 obtain⟨S2,hc⟩:=hag hT hSn hO (RecK.stab _ _ _ _ _) (ChestK.stab _ _ _)
 refine⟨_,e1,?_⟩
 subst hq
 exact JourK.leave hc rfl rfl _
theorem A3s (gj gc b:Nat) (J:Jour) (S:Nat->Prop) (w:World) (hK:JourK gj gc b J S w):Calls Tryz.prog 140 #[.pointer (some ⟨gj,0,none⟩)] w (C7 (.string J.first) w):=by
 obtain⟨A,cap,hO⟩:=hK
 refine vE Tryz.func140 ?_
 refine⟨.bool false,fun w=>A72 gj _ _ w,?_⟩
 refine⟨_,(hO.2.1.cell 1).trans rfl,?_⟩
 exact⟨rfl,Below.refl _ _⟩
theorem A1q (l:List ByteArray):(l.map fun s=>[Value.string s]).flatten=l.map Value.string:=by
 induction l with
 | nil=>rfl
 | cons a r ih=>rw [List.map_cons,List.flatten_cons,ih];rfl
theorem A2O (l:List ByteArray):Flat 1 (l.map fun s=>[Value.string s]):=Flat.map (fun s=>[Value.string s]) (fun a=>⟨rfl,rfl⟩) l
theorem Z1 (gj gc b:Nat) (J:Jour) (hn:J.recs.length<=1000000) (S:Nat->Prop) (w:World) (hK:JourK gj gc b J S w):Calls Tryz.prog 141 #[.pointer (some ⟨gj,0,none⟩)] w (B3R 9 1 J.recs.length (J.recs.map Value.string) w):=by
 obtain⟨A,cap,hO⟩:=hK
 have hR:=(hO.left (RecK.stab _ _ _ _ _)).row
 rw [<-A1q] at hR
 refine vE Tryz.func141 ?_
 refine⟨.bool false,fun w=>A72 gj _ _ w,?_⟩
 refine⟨_,(hO.2.1.cell 2).trans rfl,?_⟩
 refine⟨(A4f A J.recs.length cap _ (A2O _) (List.length_map _) hn S w hR).mono fun en wq hq=>?_⟩
 obtain⟨A2,cap2,e1,hb,ho⟩:=hq
 refine⟨_,e1,A2,cap2,rfl,hb,?_⟩
 rw [A1q] at ho
 exact ho
theorem B4c (gj gc b:Nat) (room:Int) (r:Scroll) (first:ByteArray) (recs:List ByteArray) (down:Bool) (S:Nat->Prop) (w:World) (hK:JourK gj gc b (JL room r first recs down) S w):Calls Tryz.prog 184 #[.pointer (some ⟨gj,0,none⟩)] w (C7 (.int .i64 r.s.size) w):=by
 have hch:=hK.chest
 obtain⟨A,cap,hO⟩:=hK
 have hrd:=A0l gc b (chL room r) L6 (by decide) S w hch
 rw [Q5] at hrd
 refine vE Tryz.func184 ?_
 refine⟨.bool false,fun w=>A72 gj _ _ w,?_⟩
 refine⟨_,(hO.2.1.cell 0).trans rfl,?_⟩
 refine C2 hrd ?_
 intro w1 h1
 exact⟨rfl,h1⟩
theorem B2h {t:List UInt8} (h:(V3 t).2.2=0):(V3 t).2.1<=t.length/\(vK (V3 t).1=2->(vS (V3 t).1).size<=t.length):=by
 have hp:N4 6 t=V3 t:=by
  have e:V3 t=if (N4 6 t).2.2=0/\A0t (N4 6 t).1=false then (V0,0,1) else N4 6 t:=rfl
  rw [e] at h ⊢
  split
  ·rename_i hc
   rw [if_pos hc] at h
   cases h
  ·rfl
 obtain⟨h1,h2,h3⟩:=A5H 6 t (V3 t).1 (V3 t).2.1 (by rw [hp];rw [<-h])
 refine⟨h1,fun hk=>?_⟩
 have hl:=D8 (V3 t).1
 have e:(I8 (V3 t).1).length<=t.length:=by rw [h2,List.length_take];omega
 generalize (V3 t).1=v at*
 obtain⟨k,n,s,l⟩:=v
 have hk:k=2:=hk
 subst hk
 have e2:G6 (.mk 2 n s l)=s.data.toList:=rfl
 rw [e2] at hl
 have e3:s.data.toList.length=s.size:=L0 s
 show s.size<=_
 omega
theorem V1 (s:ByteArray) (k:Nat) (h:k<=s.size):s.extract k s.size=⟨(s.data.toList.drop k).toArray⟩:=by
 have e:=W2 s.data.toList k s.size
 rw [show (⟨s.data.toList.toArray⟩:ByteArray)=s from rfl] at e
 rw [e,List.take_of_length_le (by rw [List.length_drop,L0];exact Nat.le_refl _)]
theorem A74 (s:ByteArray) (k:Nat):s.extract 0 k=⟨(s.data.toList.take k).toArray⟩:=by
 have e:=W2 s.data.toList 0 k
 rw [show (⟨s.data.toList.toArray⟩:ByteArray)=s from rfl] at e
 rw [e,List.drop_zero,Nat.sub_zero]
theorem A1r (s:ByteArray) (hs:s.size<=1000000000) (w:World) (hw:Env w):Calls Tryz.prog 174 #[.string s] w (C7 (.tuple #[.string (A0Y s.data.toList).1,.int .i64 ((A0Y s.data.toList).2.1:Nat),.int .i64 (A0Y s.data.toList).2.2]) w):=by
 obtain⟨q,hq⟩:∃ q,q=A0Y s.data.toList:=⟨_,rfl⟩
 rw [<-hq]
 unfold A0Y at hq
 have hlen:s.data.toList.length=s.size:=L0 s
 have hm:=A9v s (by omega) w
 refine vE Tryz.func174 ?_
 have hc:=CtxF.start w no (fun _ h=>h.elim) (R:=fun _ _=>True) trivial Stab.true
 refine hc.q (hm) fun wQ hQ hc=>?_
 cases hb:A06 s.data.toList with
 | false=>
  rw [if_pos hb] at hq
  subst hq
  exact⟨rfl,hc.below⟩
 | true=>
 rw [if_neg (by rw [hb];decide)] at hq
 by_cases h8:s.size<8
 ·rw [if_pos (by omega)] at hq
  subst hq
  refine dt (by omega) ?_
  exact⟨rfl,hc.below⟩
 rw [if_neg (by omega)] at hq
 refine df (by omega) ?_
 refine⟨⟨by omega,by omega,by omega⟩,?_⟩
 have hg:=B4M (s.data.toList.drop 8) _ (by rw [List.length_drop];omega) (hw.below hc.below)
 rw [<-V1 s 8 (by omega)] at hg
 have hz:=@B2h (s.data.toList.drop 8)
 rw [List.length_drop,hlen] at hz
 generalize V3 (s.data.toList.drop 8)=g at*
 obtain⟨v,n,e⟩:=g
 simp only at hq hg hz
 refine⟨hg.mono fun en wq hq2=>?_⟩
 obtain⟨A1,c1,e1,hb2,hr1⟩:=hq2
 have hc:=(hc.quiet hb2).1
 refine⟨_,e1,?_⟩
 refine hc.n fun g5 wg5 hg5 hc=>?_
 refine hc.s 0 rfl fun wS hS hc=>?_
 by_cases he2:e=2
 ·rw [if_pos he2] at hq
  subst hq
  refine B6 (by rw [he2];rfl) ?_
  subst he2
  exact⟨rfl,hc.below⟩
 rw [if_neg he2] at hq
 refine B4 (by rw [beq_eq_false_iff_ne];exact he2) ?_
 have hr:=hc
 refine vD (.Q [0,1,2,3,4,5,6,7,8,9,11,12,13,14] (.n 10 (.Q [15,16,17] .fin) .stop)) (Old _) (Old.start _) ?_
 have hk:=hc.old0
 have hc:=hc.drew
 by_cases he0:e=0
 rotate_left
 ·rw [if_pos (.inl he0)] at hq
  subst hq
  refine B6 (by simpa using he0) ?_
  refine⟨?_,trivial⟩
  exact⟨rfl,hc.below⟩
 subst he0
 refine⟨_,fun x hx=>Keeps.cell hx (hr.blk 0 rfl) (hr.blk 0 rfl).lt rfl,?_⟩
 by_cases hk2:vK v=2
 rotate_left
 ·rw [if_pos (.inr (.inl hk2))] at hq
  subst hq
  refine B6 (by simpa using hk2) ?_
  refine⟨?_,trivial⟩
  exact⟨rfl,hc.below⟩
 refine B4 (by rw [hk2];rfl) ?_
 obtain⟨hz1,hz2⟩:=hz rfl
 have hz2:=hz2 hk2
 refine⟨_,fun x hx=>Keeps.cell hx (hr.blk 0 rfl) (hr.blk 0 rfl).lt rfl,?_⟩
 have hw8:IntKind.i64.wrap (8+(n:Int))=((8+n:Nat):Int):=by rw [IntWalk.i64_in _ ⟨by omega,by omega⟩];omega
 refine⟨⟨by decide,by rw [hw8];show (0:Int)<=_;omega,by rw [hw8];omega⟩,?_⟩
 refine⟨hc.q (A1l (vS v) (by omega) _ (hw.below hc.below)) fun wA hA hc=>?_,trivial⟩
 have hk:=Keeps.below hk (fun _ h=>h) hA
 refine⟨hk,?_⟩
 have e2:s.extract ((0:Nat):Int).toNat (IntKind.i64.wrap (8+(n:Int))).toNat=⟨(s.data.toList.take (8+n)).toArray⟩:=by
  rw [hw8,Int.toNat_natCast]
  exact A74 s (8+n)
 by_cases hl:H9 (vS v)=s.data.toList.take (8+n)
 ·rw [if_neg (fun h=>h.elim (fun h=>h rfl) (fun h=>h.elim (fun h=>h hk2) (fun h=>h hl)))] at hq
  refine B4 (by
   show (!C8 _ _)=false
   rw [C5.2 (by rw [e2,hl])]
   rfl) ?_
  refine hc.c 0 rfl rfl ?_
  subst hq
  refine⟨?_,hc.below⟩
  rw [hw8]
  rfl
 ·rw [if_pos (.inr (.inr hl))] at hq
  subst hq
  refine B6 (by
   show (!C8 _ _)=true
   rw [Bool.not_eq_true',<-Bool.not_eq_true,C5,e2]
   intro h
   apply hl
   injection h with h
   exact List.toArray_inj h) ?_
  exact⟨rfl,hc.below⟩
def A4E (room:Int) (r:Scroll) (x0:ByteArray) (xs:List ByteArray) (n:Nat):Jour:=
 if (n:Int)<(r.s.size:Int) then JL (room+((r.s.size:Int)-n)) ⟨r.s.extract 0 n,if (n:Int)<r.pressed then n else r.pressed,true⟩ x0 xs false else JL room r x0 xs false
theorem A5k (room:Int) (r:Scroll) (n:Nat) (h:n<=r.s.size):A7y (chL room r) L6 n=(chL (room+((r.s.size:Int)-n)) ⟨r.s.extract 0 n,if (n:Int)<r.pressed then n else r.pressed,true⟩,0):=by
 unfold A7y
 rw [Q5]
 have e2:A4d (chL room r).f (chL room r).k L6=1:=by
  unfold A4d
  rw [Q5]
  rfl
 simp only
 rw [if_neg (by omega),e2,Int.toNat_natCast]
 show (Chest.mk (room+((r.s.size:Int)-n)) (A2b (c3f L6 r) L6 _) 1,(0:Int))=_
 rw [A5g]
 rfl
theorem _root_.Go.Vc.EnvFree.sub0 {G S:Nat->Prop} {w w1:World} {l:List LB} {os:List OR} {O:Kn} (h:EnvFree G w) (hc:CtxF no (bare w) S w1 l os (Sep 0 (Keep w G) O)):Env w1:=by
 obtain⟨S1,So,h1,h2,h3,h4⟩:=hc.row
 exact (h.kept (G':=no) fun x hx hg=>⟨id,(h3 x hx hg).2⟩).1
theorem ChestK.start {gc b:Nat} {C:Chest} {Sx:Nat->Prop} {w:World} (hlt:∀ x,Sx x->x<w.heap.size) (h:ChestK gc b C Sx w):CtxF no (bare w) (fun x=>x<w.heap.size) w [] [] (Sep 0 (Keep w Sx) (ChestK gc b C)):=
 CtxF.enter (fun x hx=>hx) trivial trivial ⟨fun x=>x<w.heap.size/\¬ Sx x,Sx,fun x hx=>hx,fun x hx=>⟨hlt x hx,Nat.zero_le _⟩,fun x hx hg=>⟨⟨hx,hg⟩,rfl⟩,h⟩ (Sep.stab (Keep.stab _ _) (ChestK.stab _ _ _))
theorem JourK.leave2 {gj gc b gr o n cap:Nat} {first:ByteArray} {down:Bool} {recs:List ByteArray} {C:Chest} {cur:List Value} {Sx S:Nat->Prop} {w w':World}
  (hc:CtxF no (bare w) S w' [(gr,9,cur),(gj,215,A2N gc first (some ⟨gr,o,none⟩) n cap down)] [] (Sep 0 (Keep w Sx) (ChestK gc b C))) (hn:n=recs.length) (h1:n<=cap) (h2:cap<=maxLen) (h3:o+cap<=cur.length) (h4:(cur.drop o).take n=recs.map Value.string) (v:Value):RetOb Sx w v (JourK gj gc b ⟨C,first,recs,down⟩) (.returned v) w':=by
 subst hn
 obtain⟨⟨_,a1,a2,a3,_,b1,b2,_⟩⟩:Locs S 0 w' [(gr,9,cur),(gj,215,A2N gc first (some ⟨gr,o,none⟩) recs.length cap down)]/\True:=⟨hc.ctx.locs,trivial⟩
 have hne:gj≠gr:=a3 _ (List.mem_cons_self ..)
 obtain⟨Sk,So,k1,k2,k3,k4⟩:=hc.row
 have hout:∀ x,¬ Sk x->Sx x\/w.heap.size<=x:=fun x hn=>by
  rcases Nat.lt_or_ge x w.heap.size with hl | hl
  ·rcases Classical.em (Sx x) with hs | hs
   ·exact .inl hs
   ·exact (hn (k3 x hl hs).1).elim
  ·exact .inr hl
 refine⟨rfl,hc.leave k3,fun x=>x=gj\/x=gr\/So x,fun x hx=>?_,some ⟨gr,o,none⟩,cap,.inl rfl,hc.blk 1 rfl,fun x=>x=gr,So,fun x hx=>⟨⟨.inr (.inl hx),fun e=>hne (e.symm.trans hx)⟩,fun ho=>a1 (hx▸(k2 x ho).1)⟩,fun x hx=>⟨⟨.inr (.inr hx),fun e=>b1 (e▸(k2 x hx).1)⟩,Nat.zero_le _⟩,⟨by rw [List.length_map],h1,h2,.inr ⟨gr,o,cur,rfl,rfl,hc.blk 0 rfl,h3,h4⟩⟩,k4⟩
 rcases hx with rfl | rfl | hx
 ·exact⟨hout _ fun h=>b1 (k1 _ h).1,(hc.blk 1 rfl).lt⟩
 ·exact⟨hout _ fun h=>a1 (k1 _ h).1,(hc.blk 0 rfl).lt⟩
 ·exact⟨hout _ fun h=>(k1 _ h).2 hx,hc.ctx.lt _ (k2 x hx).1⟩
theorem Splits.le:∀ {l:List ByteArray} {t:List UInt8} {n m:Nat},Splits t l n->t.length=m->n<=m
 | [],t,n,m,h,e=>by rw [h.1];exact Nat.zero_le _
 | x::xs,t,n,m,⟨k,a,h1,h2,h3,h4,h5⟩,e=>by
  have:=Splits.le h5 rfl
  rw [List.length_drop] at this
  omega
theorem A1s (gc b:Nat) (room:Int) (r:Scroll) (x0:ByteArray) (xs:List ByteArray) (n:Nat) (hS:Splits r.s.data.toList (x0::xs) n) (hs:r.s.size<=1000000000) (hr:0<=room/\room<=1000000000) (hn:xs.length<=100000) (Sx:Nat->Prop) (w:World) (hlt:∀ x,Sx x->x<w.heap.size) (he:EnvFree Sx w) (hK:ChestK gc b (chL room r) Sx w):
  Calls Tryz.prog 138 #[.pointer (some ⟨gc,0,none⟩)] w (fun en w'=>∃ gj,RetOb Sx w (.tuple #[.pointer (some ⟨gj,0,none⟩),.int .i64 0]) (JourK gj gc b (A4E room r x0 xs n)) en w'):=by
 have hc:=ChestK.start hlt hK
 refine vE Tryz.func138 ?_
 refine⟨.bool false,fun w=>A7w gc _ _ w,?_⟩
 have hcl:=fun Sa w hK=>A2x gc b (chL room r) A0a ⟨#[79,76,68]⟩ (by decide) (by decide) ⟨by show _<=room;omega,by show room<=_;omega⟩ (by
  rw [A5h _ _ (by decide)]
  decide) (by show 1<1000000;decide) Sa w hK
 rw [B2g room r _ (by kernel_rfl)] at hcl
 obtain⟨S1,Sa,h1,h2,h3,hO⟩:=hc.row
 refine⟨(hcl Sa _ hO).mono fun en wq hq=>?_⟩
 obtain⟨e1,hT,Sn,hSn,hO⟩:=hq
 have hc:=hc.turnO (Keep.stab _ _) h1 h2 h3 hT hSn hO (ChestK.stab _ _ _)
 refine⟨_,e1,?_⟩
 refine hc.n fun g4 wg4 hg4 hc=>?_
 have hrd:=A0l gc b (chL room r) L6 (by decide) _ _ (hc.row.right (ChestK.stab _ _ _))
 rw [Q5] at hrd
 refine hc.q (hrd) fun wQ hQ hc=>?_
 obtain⟨A0,k0,S0,hc⟩:∃ A0 k0 S0,CtxF no (bare w) S0 wQ [(g4,215,A2N gc ⟨#[]⟩ A0 0 k0 false)] [] (Sep 0 (Keep w Sx) (ChestK gc b (chL room r))):=⟨_,_,_,hc⟩
 have hc:=hc.nil 9 1
 have hlen:r.s.data.toList.length=r.s.size:=L0 r.s
 refine⟨Nat × Nat × Option Addr × Nat,fun y=>[(0,.pointer (some ⟨gc,0,none⟩)),(4,.pointer (some ⟨g4,0,none⟩)),(5,.string r.s),(8,.int .i64 (y.2.1:Nat)),(9,.slice y.2.2.1 y.1 y.2.2.2)],
  fun y w'=>y.1<=(x0::xs).length/\y.2.1<=n/\n<=r.s.size/\Splits (r.s.data.toList.drop y.2.1) ((x0::xs).drop y.1) (n-y.2.1)/\∃ S,CtxF no (bare w) S w' [(g4,215,A2N gc ⟨#[]⟩ A0 0 k0 false)] [⟨9,1,y.2.2.1,y.1,y.2.2.2,((x0::xs).take y.1).map Value.string⟩] (Sep 0 (Keep w Sx) (ChestK gc b (chL room r))),fun y _=>(x0::xs).length-y.1,(0,0,none,0),⟨rfl,rfl,rfl,rfl,rfl,trivial⟩,⟨Nat.zero_le _,Nat.zero_le _,Splits.le hS hlen,hS,_,hc⟩,?_⟩
 clear hc
 rintro⟨i,a,A,cap⟩ w' u ⟨hi,ha,hnr,hsp,S,hc⟩
 simp only at hi ha hsp hc
 cases hd:(x0::xs).drop i with
 | nil=>
  rw [hd] at hsp
  have hi2:i=(x0::xs).length:=by
   have:=congrArg List.length hd
   rw [List.length_drop] at this
   simp only [List.length_nil] at this
   omega
  have ha2:a=n:=by
   have:=hsp.1
   omega
  subst ha2
  have hipos:0<i:=by rw [hi2,List.length_cons];omega
  rcases Nat.lt_or_ge a r.s.size with hlt | hge
  ·refine dt (by show (a:Int)<r.s.size;omega) ?_
   refine⟨⟨by show (0:Int)<=(a:Int);omega,by show (a:Int)<=(r.s.size:Int);omega,Int.le_refl _⟩,?_⟩
   have ht2:(A0Y (r.s.data.toList.drop a)).2.2=2:=by
    rcases hsp.2 with h | h
    ·have:=congrArg List.length h
     rw [List.length_drop,hlen] at this
     simp only [List.length_nil] at this
     omega
    ·exact h
   have htu:=A1r (r.s.extract a r.s.size) (by rw [ByteArray.size_extract];omega) _ (he.sub0 hc)
   rw [V1 r.s a (by omega),show ((⟨(r.s.data.toList.drop a).toArray⟩:ByteArray)).data.toList=r.s.data.toList.drop a from rfl,ht2,<-V1 r.s a (by omega)] at htu
   refine hc.q (htu) fun wQ hQ hc=>?_
   refine B4 (by rw [beq_eq_false_iff_ne];omega) ?_
   have hA:∃ ad,A=some ad:=by
    cases A with
    | some ad=>exact⟨ad,rfl⟩
    | none=>
     have:i=0:=(hc.fst.none' rfl).1
     omega
   obtain⟨ad,hA⟩:=hA
   obtain⟨gr,cur,eA,hco,hcl,hct,hnc,hcm⟩:=hc.opened hA
   clear hc
   subst eA
   have hc:=hco
   have hcl:cur.length=cap*1:=hcl
   have hct:cur.take (i*1)=((x0::xs).take i).map Value.string:=hct
   have hnc:i<=cap:=hnc
   have hcm:cap<=maxLen:=hcm
   have hcur0:cur[0]?=some (.string x0):=by
    have e:(cur.take (i*1))[0]?=some (.string x0):=by rw [hct,hi2];rfl
    rw [List.getElem?_take] at e
    split at e
    ·exact e
    ·cases e
   have hdrop:(cur.drop 1).take (i-1)=xs.map Value.string:=by
    have e:(cur.take (i*1)).drop 1=xs.map Value.string:=by rw [hct,hi2,List.take_length];rfl
    rw [List.drop_take] at e
    rw [<-e,Nat.mul_one]
   rw [Nat.mul_one] at hcl
   have hfin:∀ (J:Jour) (room':Int) (r':Scroll),J=JL room' r' x0 xs false->∀ (wF:World) (S:Nat->Prop) (A3:Option Addr) (n3 c3:Nat),A3=(if (cap:Int)=1 then some (⟨gr,0,none⟩:Addr) else (some (⟨gr,0,none⟩:Addr)).map (·.add ((1:Int).toNat*1)))->n3=i-1->c3=cap-1->CtxF no (bare w) S wF [(gr,9,cur),(g4,215,A2N gc x0 A3 n3 c3 false)] [] (Sep 0 (Keep w Sx) (ChestK gc b (chL room' r')))->∃ gj,RetOb Sx w (.tuple #[.pointer (some ⟨gj,0,none⟩),.int .i64 0]) (JourK gj gc b J) (.returned (.tuple #[.pointer (some ⟨g4,0,none⟩),.int .i64 0])) wF:=by
    intro J room' r' eJ wF S A3 n3 c3 e3 en3 ec3 hcz
    subst eJ en3 ec3
    refine⟨g4,?_⟩
    by_cases h1:cap=1
    ·rw [if_pos (by omega)] at e3
     subst e3
     have hxs:xs=[]:=by
      have:xs.length=0:=by simp only [List.length_cons] at hi2;omega
      exact List.eq_nil_of_length_eq_zero this
     subst hxs
     simp only [List.length_cons,List.length_nil] at hi2
     exact JourK.leave2 (o:=0) (n:=i-1) (cap:=cap-1) hcz (by simp only [List.length_nil];omega) (by omega) (by omega) (by omega) (by rw [show i-1=0 from by omega];rfl) _
    ·rw [if_neg (by omega)] at e3
     have e4:A3=some ⟨gr,1,none⟩:=by rw [e3,Option.map_some,Addr.add_lit];rfl
     subst e4
     exact JourK.leave2 (n:=i-1) (cap:=cap-1) hcz (by simp only [List.length_cons] at hi2;omega) (by omega) (by omega) (by omega) hdrop _
   by_cases hn2:(a:Int)<(r.s.size:Int)
   ·refine dt hn2 ?_
    have hcu:=fun Sa w hK=>A1k gc b (chL room r) L6 (a:Nat) (by decide) ⟨by show _<=room;omega,by show room<=_;omega⟩ (by rw [Q5];show r.s.size<=_;omega) (by show 1<1000000;decide) Sa w hK
    rw [A5k room r a hnr] at hcu
    obtain⟨S1,Sa,h1,h2,h3,hO⟩:=hc.row
    refine⟨(hcu Sa _ hO).mono fun en wq hq=>?_⟩
    obtain⟨e1,hT,Sn,hSn,hO⟩:=hq
    have hc:=hc.turnO (Keep.stab _ _) h1 h2 h3 hT hSn hO (ChestK.stab _ _ _)
    refine⟨_,e1,?_⟩
    refine vD (.Q [0,1,2,3,5,6] (.n 4 (.Q [7,8] (.n 9 (.Q [10,11] (.n 12 .fin .stop)) .stop)) .stop)) (fun _=>True) trivial ?_
    have hc:=hc.drew
    refine⟨⟨by omega,by omega⟩,?_⟩
    refine⟨⟨by decide,by show (1:Int)<=(i:Int);omega,by show (i:Int)<=(cap:Int)/\(cap:Int)<=(cap:Int);omega⟩,?_⟩
    refine⟨⟨_,hc.cell 0 rfl 0 hcur0,trivial,?_⟩,trivial⟩
    refine⟨hc.s' 1 rfl fun wS hS hc=>?_,trivial⟩
    refine⟨hc.s' 1 rfl fun wS hS hc=>?_,trivial⟩
    exact hfin _ (room+((r.s.size:Int)-a)) ⟨r.s.extract 0 a,if (a:Int)<r.pressed then a else r.pressed,true⟩ (if_pos hn2) _ _ _ _ _ rfl (by show ((i:Int)-1).toNat=i-1;omega) (by show ((cap:Int)-1).toNat=cap-1;omega) hc
   ·refine df hn2 ?_
    refine vD (.Q [0,1,2,3,5,6] (.n 4 (.Q [7,8] (.n 9 (.Q [10,11] (.n 12 .fin .stop)) .stop)) .stop)) (fun _=>True) trivial ?_
    have hc:=hc.drew
    refine⟨⟨by omega,by omega⟩,?_⟩
    refine⟨⟨by decide,by show (1:Int)<=(i:Int);omega,by show (i:Int)<=(cap:Int)/\(cap:Int)<=(cap:Int);omega⟩,?_⟩
    refine⟨⟨_,hc.cell 0 rfl 0 hcur0,trivial,?_⟩,trivial⟩
    refine⟨hc.s' 1 rfl fun wS hS hc=>?_,trivial⟩
    refine⟨hc.s' 1 rfl fun wS hS hc=>?_,trivial⟩
    exact hfin _ room r (if_neg hn2) _ _ _ _ _ rfl (by show ((i:Int)-1).toNat=i-1;omega) (by show ((cap:Int)-1).toNat=cap-1;omega) hc
  ·refine df (by show ¬ (a:Int)<r.s.size;omega) ?_
   refine B4 (by rw [beq_eq_false_iff_ne];omega) ?_
   have hA:∃ ad,A=some ad:=by
    cases A with
    | some ad=>exact⟨ad,rfl⟩
    | none=>
     have:i=0:=(hc.fst.none' rfl).1
     omega
   obtain⟨ad,hA⟩:=hA
   obtain⟨gr,cur,eA,hco,hcl,hct,hnc,hcm⟩:=hc.opened hA
   clear hc
   subst eA
   have hc:=hco
   have hcl:cur.length=cap*1:=hcl
   have hct:cur.take (i*1)=((x0::xs).take i).map Value.string:=hct
   have hnc:i<=cap:=hnc
   have hcm:cap<=maxLen:=hcm
   have hcur0:cur[0]?=some (.string x0):=by
    have e:(cur.take (i*1))[0]?=some (.string x0):=by rw [hct,hi2];rfl
    rw [List.getElem?_take] at e
    split at e
    ·exact e
    ·cases e
   have hdrop:(cur.drop 1).take (i-1)=xs.map Value.string:=by
    have e:(cur.take (i*1)).drop 1=xs.map Value.string:=by rw [hct,hi2,List.take_length];rfl
    rw [List.drop_take] at e
    rw [<-e,Nat.mul_one]
   rw [Nat.mul_one] at hcl
   have hfin:∀ (J:Jour) (room':Int) (r':Scroll),J=JL room' r' x0 xs false->∀ (wF:World) (S:Nat->Prop) (A3:Option Addr) (n3 c3:Nat),A3=(if (cap:Int)=1 then some (⟨gr,0,none⟩:Addr) else (some (⟨gr,0,none⟩:Addr)).map (·.add ((1:Int).toNat*1)))->n3=i-1->c3=cap-1->CtxF no (bare w) S wF [(gr,9,cur),(g4,215,A2N gc x0 A3 n3 c3 false)] [] (Sep 0 (Keep w Sx) (ChestK gc b (chL room' r')))->∃ gj,RetOb Sx w (.tuple #[.pointer (some ⟨gj,0,none⟩),.int .i64 0]) (JourK gj gc b J) (.returned (.tuple #[.pointer (some ⟨g4,0,none⟩),.int .i64 0])) wF:=by
    intro J room' r' eJ wF S A3 n3 c3 e3 en3 ec3 hcz
    subst eJ en3 ec3
    refine⟨g4,?_⟩
    by_cases h1:cap=1
    ·rw [if_pos (by omega)] at e3
     subst e3
     have hxs:xs=[]:=by
      have:xs.length=0:=by simp only [List.length_cons] at hi2;omega
      exact List.eq_nil_of_length_eq_zero this
     subst hxs
     simp only [List.length_cons,List.length_nil] at hi2
     exact JourK.leave2 (o:=0) (n:=i-1) (cap:=cap-1) hcz (by simp only [List.length_nil];omega) (by omega) (by omega) (by omega) (by rw [show i-1=0 from by omega];rfl) _
    ·rw [if_neg (by omega)] at e3
     have e4:A3=some ⟨gr,1,none⟩:=by rw [e3,Option.map_some,Addr.add_lit];rfl
     subst e4
     exact JourK.leave2 (n:=i-1) (cap:=cap-1) hcz (by simp only [List.length_cons] at hi2;omega) (by omega) (by omega) (by omega) hdrop _
   by_cases hn2:(a:Int)<(r.s.size:Int)
   ·refine dt hn2 ?_
    have hcu:=fun Sa w hK=>A1k gc b (chL room r) L6 (a:Nat) (by decide) ⟨by show _<=room;omega,by show room<=_;omega⟩ (by rw [Q5];show r.s.size<=_;omega) (by show 1<1000000;decide) Sa w hK
    rw [A5k room r a hnr] at hcu
    obtain⟨S1,Sa,h1,h2,h3,hO⟩:=hc.row
    refine⟨(hcu Sa _ hO).mono fun en wq hq=>?_⟩
    obtain⟨e1,hT,Sn,hSn,hO⟩:=hq
    have hc:=hc.turnO (Keep.stab _ _) h1 h2 h3 hT hSn hO (ChestK.stab _ _ _)
    refine⟨_,e1,?_⟩
    refine vD (.Q [0,1,2,3,5,6] (.n 4 (.Q [7,8] (.n 9 (.Q [10,11] (.n 12 .fin .stop)) .stop)) .stop)) (fun _=>True) trivial ?_
    have hc:=hc.drew
    refine⟨⟨by omega,by omega⟩,?_⟩
    refine⟨⟨by decide,by show (1:Int)<=(i:Int);omega,by show (i:Int)<=(cap:Int)/\(cap:Int)<=(cap:Int);omega⟩,?_⟩
    refine⟨⟨_,hc.cell 0 rfl 0 hcur0,trivial,?_⟩,trivial⟩
    refine⟨hc.s' 1 rfl fun wS hS hc=>?_,trivial⟩
    refine⟨hc.s' 1 rfl fun wS hS hc=>?_,trivial⟩
    exact hfin _ (room+((r.s.size:Int)-a)) ⟨r.s.extract 0 a,if (a:Int)<r.pressed then a else r.pressed,true⟩ (if_pos hn2) _ _ _ _ _ rfl (by show ((i:Int)-1).toNat=i-1;omega) (by show ((cap:Int)-1).toNat=cap-1;omega) hc
   ·refine df hn2 ?_
    refine vD (.Q [0,1,2,3,5,6] (.n 4 (.Q [7,8] (.n 9 (.Q [10,11] (.n 12 .fin .stop)) .stop)) .stop)) (fun _=>True) trivial ?_
    have hc:=hc.drew
    refine⟨⟨by omega,by omega⟩,?_⟩
    refine⟨⟨by decide,by show (1:Int)<=(i:Int);omega,by show (i:Int)<=(cap:Int)/\(cap:Int)<=(cap:Int);omega⟩,?_⟩
    refine⟨⟨_,hc.cell 0 rfl 0 hcur0,trivial,?_⟩,trivial⟩
    refine⟨hc.s' 1 rfl fun wS hS hc=>?_,trivial⟩
    refine⟨hc.s' 1 rfl fun wS hS hc=>?_,trivial⟩
    exact hfin _ room r (if_neg hn2) _ _ _ _ _ rfl (by show ((i:Int)-1).toNat=i-1;omega) (by show ((cap:Int)-1).toNat=cap-1;omega) hc
 | cons y ys=>
  rw [hd] at hsp
  obtain⟨k,a2,ht,hk0,hkl,hna,hsp2⟩:=hsp
  rw [List.length_drop,hlen] at hkl
  have hil:i<(x0::xs).length:=by
   rcases Nat.lt_or_ge i (x0::xs).length with h | h
   ·exact h
   ·rw [List.drop_of_length_le h] at hd;cases hd
  refine dt (by show (a:Int)<r.s.size;omega) ?_
  refine⟨⟨by show (0:Int)<=(a:Int);omega,by show (a:Int)<=(r.s.size:Int);omega,Int.le_refl _⟩,?_⟩
  have htu:=A1r (r.s.extract a r.s.size) (by rw [ByteArray.size_extract];omega) _ (he.sub0 hc)
  rw [V1 r.s a (by omega),show ((⟨(r.s.data.toList.drop a).toArray⟩:ByteArray)).data.toList=r.s.data.toList.drop a from rfl,ht,<-V1 r.s a (by omega)] at htu
  refine hc.q (htu) fun wQ hQ hc=>?_
  refine hc.n fun gv wgv hgv hc=>?_
  refine D1 (m:=1) Tryz.underlying83 A4e rfl (by decide) hc (by rfl) (hc.cells 0 rfl) rfl (by show i+1<=_;simp only [List.length_cons] at hil;omega) (by decide) rfl rfl ?_
  intro A3 cap3 w3 hc
  have hw3:IntKind.i64.wrap ((a:Int)+(k:Int))=((a+k:Nat):Int):=by rw [IntWalk.i64_in _ ⟨by omega,by omega⟩];omega
  refine⟨(i+1,a+k,A3,cap3),⟨rfl,rfl,rfl,congrArg _ hw3,rfl,trivial⟩,⟨hil,by show a+k<=n;omega,hnr,?_,S,?_⟩,by show (x0::xs).length-(i+1)<(x0::xs).length-i;omega⟩
  ·show Splits (r.s.data.toList.drop (a+k)) ((x0::xs).drop (i+1)) (n-(a+k))
   have e1:(x0::xs).drop (i+1)=ys:=by
    rw [<-List.drop_drop,hd]
    rfl
   rw [e1,<-List.drop_drop,show n-(a+k)=a2 from by omega]
   exact hsp2
  ·show CtxF no (bare w) S w3 _ [⟨9,1,A3,i+1,cap3,((x0::xs).take (i+1)).map Value.string⟩] _
   have e1:(x0::xs).take (i+1)=(x0::xs).take i++[y]:=by
    have e2:=List.take_add (l:=x0::xs) (i:=i) (j:=1)
    rw [e2,hd]
    rfl
   rw [e1,List.map_append]
   exact hc.drop
def c0 (room:Int):Chest:=⟨room,fun _=>none,0⟩
def bE:ByteArray:=⟨#[]⟩
theorem A0b:E9 bE=11:=by kernel_rfl
theorem B6d (room:Int) (to:ByteArray) (h:A3e to=true):A0X (c0 room) A0a to=(c0 room,6):=by
 unfold A0X
 rw [if_pos h]
 rfl
theorem B2i (room:Int) (s:ByteArray) (h:(s.size:Int)<=room):Z0 (c0 room) L6 s=(chL (room-s.size) ⟨s,s.size,true⟩,0):=by
 have e0:(⟨#[]⟩:ByteArray)++s=s:=ByteArray.empty_append
 have e1:N0 (c0 room) L6 s=(chL (room-s.size) ⟨s,0,false⟩,0):=by
  unfold N0
  rw [if_pos B8z]
  show (if room<(s.size:Int) then _ else _)=_
  rw [if_neg (by omega)]
  show (Chest.mk (room-s.size) (A2b (fun _=>none) L6 ⟨⟨#[]⟩++s,0,false⟩) 1,(0:Int))=_
  rw [e0]
  rfl
 unfold Z0
 rw [e1,if_pos rfl,A6s]
theorem A4o (gc b:Nat) (room0:Int) (hr0:11<=room0/\room0<=1000000000) (Sx:Nat->Prop) (w:World) (hlt:∀ x,Sx x->x<w.heap.size) (he:EnvFree Sx w) (hK:ChestK gc b (c0 room0) Sx w):
  Calls Tryz.prog 138 #[.pointer (some ⟨gc,0,none⟩)] w (fun en w'=>∃ gj,RetOb Sx w (.tuple #[.pointer (some ⟨gj,0,none⟩),.int .i64 0]) (JourK gj gc b (A4E (room0-E9 bE) ⟨G8 bE,E9 bE,true⟩ bE [] 11)) en w'):=by
 have hsz:=W8 bE
 have hS:Splits (G8 bE).data.toList (bE::[]) 11:=by
  have h:=Splits.leaves [bE] [] (fun x hx=>by rw [List.mem_singleton.1 hx];decide) (.inl rfl)
  rw [List.append_nil] at h
  have e:(C6 [bE]).length=11:=by kernel_rfl
  have e1:C6 [bE]=(G8 bE).data.toList:=by
   show H9 bE++[]=(H9 bE).toArray.toList
   simp
  rw [e,e1] at h
  exact h
 obtain⟨room,hroom⟩:∃ room,room=room0-E9 bE:=⟨_,rfl⟩
 obtain⟨r,hrr⟩:∃ r:Scroll,r=⟨G8 bE,E9 bE,true⟩:=⟨_,rfl⟩
 obtain⟨x0,hx0⟩:∃ x0,x0=bE:=⟨_,rfl⟩
 obtain⟨xs,hxs0⟩:∃ xs:List ByteArray,xs=[]:=⟨_,rfl⟩
 obtain⟨n,hnn⟩:∃ n:Nat,n=11:=⟨_,rfl⟩
 have hs:r.s.size<=1000000000:=by rw [hrr];show (G8 bE).size<=_;rw [A0b] at hsz;omega
 have hr:0<=room/\room<=1000000000:=by rw [A0b] at hroom;omega
 have hn:xs.length<=100000:=by rw [hxs0];decide
 have ers:r.s=G8 bE:=by rw [hrr]
 rw [<-ers,<-hx0,<-hxs0,<-hnn] at hS
 rw [<-hroom,<-hrr,<-hx0,<-hxs0,<-hnn]
 have hc:=ChestK.start hlt hK
 refine vE Tryz.func138 ?_
 refine⟨.bool false,fun w=>A7w gc _ _ w,?_⟩
 have hcl:=fun Sa w hK=>A2x gc b (c0 room0) A0a ⟨#[79,76,68]⟩ (by decide) (by decide) ⟨by show _<=room0;omega,by show room0<=_;omega⟩ (by show (0:Nat)<=_;omega) (by show 0<1000000;decide) Sa w hK
 rw [B6d room0 _ (by kernel_rfl)] at hcl
 obtain⟨S1,Sa,h1,h2,h3,hO⟩:=hc.row
 refine⟨(hcl Sa _ hO).mono fun en wq hq=>?_⟩
 obtain⟨e1,hT,Sn,hSn,hO⟩:=hq
 have hc:=hc.turnO (Keep.stab _ _) h1 h2 h3 hT hSn hO (ChestK.stab _ _ _)
 refine⟨_,e1,?_⟩
 refine hc.n fun g4 wg4 hg4 hc=>?_
 have hrd:=A0l gc b (c0 room0) L6 (by decide) _ _ (hc.row.right (ChestK.stab _ _ _))
 rw [show (c0 room0).f L6=none from rfl] at hrd
 refine hc.q (hrd) fun wQ hQ hc=>?_
 refine hc.q (A1l bE (by decide) _ (he.sub0 hc)) fun wQ hQ hc=>?_
 have hc:CtxF _ _ _ _ _ _ (Sep 0 (Sep 0 (Keep w Sx) (RecK 9 none 0 0 [])) (ChestK gc b (c0 room0))):=hc.now (fun h=>by
  obtain⟨S1,So,h1,h2,h3,h4⟩:=h
  exact⟨S1,So,h1,h2,⟨S1,no,fun x hx=>⟨hx,id⟩,(fun x hx=>hx.elim),h3,RecK.nil _ _ _⟩,h4⟩) (Sep.stab (Sep.stab (Keep.stab _ _) (RecK.stab _ _ _ _ _)) (ChestK.stab _ _ _))
 have hwr:=fun Sx w hlt hK=>A4m g4 gc b ⟨c0 room0,bE,[],false⟩ L6 (G8 bE) (by decide) ⟨by show _<=room0;omega,by show room0<=_;omega⟩ (by rw [A0b] at hsz;omega) (by show (0:Nat)<=_;omega) (by show 0<999999;decide) Sx w hlt hK
 have ew:Z0 (c0 room0) L6 (G8 bE)=(chL room r,0):=by
  rw [B2i room0 _ (by rw [hsz,A0b];omega),hsz,hroom,hrr]
 rw [show (Jour.mk (c0 room0) bE [] false).C=c0 room0 from rfl,ew] at hwr
 obtain⟨Sm,hm0,hkp,hm1,hag⟩:=hc.again
 refine⟨(hwr Sm _ hm0 ⟨_,_,hm1⟩).mono fun en wq hq=>?_⟩
 obtain⟨e1,hT,Sn,hSn,A2,cap2,hO⟩:=hq
 obtain⟨S2,hc⟩:=hag hT hSn hO (RecK.stab _ _ _ _ _) (ChestK.stab _ _ _)
 refine⟨_,e1,?_⟩
 have hc:CtxF _ _ _ _ _ _ (Sep 0 (Keep w Sx) (ChestK gc b (chL room r))):=hc.now (fun h=>by
  obtain⟨S1,So,h1,h2,⟨Sk,Sr,k1,k2,k3,k4⟩,h4⟩:=h
  exact⟨Sk,So,fun x hx=>h1 x (k1 x hx).1,h2,k3,h4⟩) (Sep.stab (Keep.stab _ _) (ChestK.stab _ _ _))
 obtain⟨A0,k0,S0,hc⟩:∃ A0 k0 S0,CtxF no (bare w) S0 wq [(g4,215,A2N gc ⟨#[]⟩ A0 0 k0 false)] [] (Sep 0 (Keep w Sx) (ChestK gc b (chL room r))):=⟨_,_,_,hc⟩
 have hc:=hc.nil 9 1
 have hlen:r.s.data.toList.length=r.s.size:=L0 r.s
 refine⟨Nat × Nat × Option Addr × Nat,fun y=>[(0,.pointer (some ⟨gc,0,none⟩)),(4,.pointer (some ⟨g4,0,none⟩)),(5,.string r.s),(8,.int .i64 (y.2.1:Nat)),(9,.slice y.2.2.1 y.1 y.2.2.2)],
  fun y w'=>y.1<=(x0::xs).length/\y.2.1<=n/\n<=r.s.size/\Splits (r.s.data.toList.drop y.2.1) ((x0::xs).drop y.1) (n-y.2.1)/\∃ S,CtxF no (bare w) S w' [(g4,215,A2N gc ⟨#[]⟩ A0 0 k0 false)] [⟨9,1,y.2.2.1,y.1,y.2.2.2,((x0::xs).take y.1).map Value.string⟩] (Sep 0 (Keep w Sx) (ChestK gc b (chL room r))),fun y _=>(x0::xs).length-y.1,(0,0,none,0),⟨rfl,rfl,congrArg Value.string (show G8 bE=r.s from ers.symm),rfl,rfl,trivial⟩,⟨Nat.zero_le _,Nat.zero_le _,Splits.le hS hlen,hS,_,hc⟩,?_⟩
 clear hc
 rintro⟨i,a,A,cap⟩ w' u ⟨hi,ha,hnr,hsp,S,hc⟩
 simp only at hi ha hsp hc
 cases hd:(x0::xs).drop i with
 | nil=>
  rw [hd] at hsp
  have hi2:i=(x0::xs).length:=by
   have:=congrArg List.length hd
   rw [List.length_drop] at this
   simp only [List.length_nil] at this
   omega
  have ha2:a=n:=by
   have:=hsp.1
   omega
  subst ha2
  have hipos:0<i:=by rw [hi2,List.length_cons];omega
  rcases Nat.lt_or_ge a r.s.size with hlt | hge
  ·refine dt (by show (a:Int)<r.s.size;omega) ?_
   refine⟨⟨by show (0:Int)<=(a:Int);omega,by show (a:Int)<=(r.s.size:Int);omega,Int.le_refl _⟩,?_⟩
   have ht2:(A0Y (r.s.data.toList.drop a)).2.2=2:=by
    rcases hsp.2 with h | h
    ·have:=congrArg List.length h
     rw [List.length_drop,hlen] at this
     simp only [List.length_nil] at this
     omega
    ·exact h
   have htu:=A1r (r.s.extract a r.s.size) (by rw [ByteArray.size_extract];omega) _ (he.sub0 hc)
   rw [V1 r.s a (by omega),show ((⟨(r.s.data.toList.drop a).toArray⟩:ByteArray)).data.toList=r.s.data.toList.drop a from rfl,ht2,<-V1 r.s a (by omega)] at htu
   refine hc.q (htu) fun wQ hQ hc=>?_
   refine B4 (by rw [beq_eq_false_iff_ne];omega) ?_
   have hA:∃ ad,A=some ad:=by
    cases A with
    | some ad=>exact⟨ad,rfl⟩
    | none=>
     have:i=0:=(hc.fst.none' rfl).1
     omega
   obtain⟨ad,hA⟩:=hA
   obtain⟨gr,cur,eA,hco,hcl,hct,hnc,hcm⟩:=hc.opened hA
   clear hc
   subst eA
   have hc:=hco
   have hcl:cur.length=cap*1:=hcl
   have hct:cur.take (i*1)=((x0::xs).take i).map Value.string:=hct
   have hnc:i<=cap:=hnc
   have hcm:cap<=maxLen:=hcm
   have hcur0:cur[0]?=some (.string x0):=by
    have e:(cur.take (i*1))[0]?=some (.string x0):=by rw [hct,hi2];rfl
    rw [List.getElem?_take] at e
    split at e
    ·exact e
    ·cases e
   have hdrop:(cur.drop 1).take (i-1)=xs.map Value.string:=by
    have e:(cur.take (i*1)).drop 1=xs.map Value.string:=by rw [hct,hi2,List.take_length];rfl
    rw [List.drop_take] at e
    rw [<-e,Nat.mul_one]
   rw [Nat.mul_one] at hcl
   have hfin:∀ (J:Jour) (room':Int) (r':Scroll),J=JL room' r' x0 xs false->∀ (wF:World) (S:Nat->Prop) (A3:Option Addr) (n3 c3:Nat),A3=(if (cap:Int)=1 then some (⟨gr,0,none⟩:Addr) else (some (⟨gr,0,none⟩:Addr)).map (·.add ((1:Int).toNat*1)))->n3=i-1->c3=cap-1->CtxF no (bare w) S wF [(gr,9,cur),(g4,215,A2N gc x0 A3 n3 c3 false)] [] (Sep 0 (Keep w Sx) (ChestK gc b (chL room' r')))->∃ gj,RetOb Sx w (.tuple #[.pointer (some ⟨gj,0,none⟩),.int .i64 0]) (JourK gj gc b J) (.returned (.tuple #[.pointer (some ⟨g4,0,none⟩),.int .i64 0])) wF:=by
    intro J room' r' eJ wF S A3 n3 c3 e3 en3 ec3 hcz
    subst eJ en3 ec3
    refine⟨g4,?_⟩
    by_cases h1:cap=1
    ·rw [if_pos (by omega)] at e3
     subst e3
     have hxs:xs=[]:=by
      have:xs.length=0:=by simp only [List.length_cons] at hi2;omega
      exact List.eq_nil_of_length_eq_zero this
     subst hxs
     simp only [List.length_cons,List.length_nil] at hi2
     exact JourK.leave2 (o:=0) (n:=i-1) (cap:=cap-1) hcz (by simp only [List.length_nil];omega) (by omega) (by omega) (by omega) (by rw [show i-1=0 from by omega];rfl) _
    ·rw [if_neg (by omega)] at e3
     have e4:A3=some ⟨gr,1,none⟩:=by rw [e3,Option.map_some,Addr.add_lit];rfl
     subst e4
     exact JourK.leave2 (n:=i-1) (cap:=cap-1) hcz (by simp only [List.length_cons] at hi2;omega) (by omega) (by omega) (by omega) hdrop _
   by_cases hn2:(a:Int)<(r.s.size:Int)
   ·refine dt hn2 ?_
    have hcu:=fun Sa w hK=>A1k gc b (chL room r) L6 (a:Nat) (by decide) ⟨by show _<=room;omega,by show room<=_;omega⟩ (by rw [Q5];show r.s.size<=_;omega) (by show 1<1000000;decide) Sa w hK
    rw [A5k room r a hnr] at hcu
    obtain⟨S1,Sa,h1,h2,h3,hO⟩:=hc.row
    refine⟨(hcu Sa _ hO).mono fun en wq hq=>?_⟩
    obtain⟨e1,hT,Sn,hSn,hO⟩:=hq
    have hc:=hc.turnO (Keep.stab _ _) h1 h2 h3 hT hSn hO (ChestK.stab _ _ _)
    refine⟨_,e1,?_⟩
    refine vD (.Q [0,1,2,3,5,6] (.n 4 (.Q [7,8] (.n 9 (.Q [10,11] (.n 12 .fin .stop)) .stop)) .stop)) (fun _=>True) trivial ?_
    have hc:=hc.drew
    refine⟨⟨by omega,by omega⟩,?_⟩
    refine⟨⟨by decide,by show (1:Int)<=(i:Int);omega,by show (i:Int)<=(cap:Int)/\(cap:Int)<=(cap:Int);omega⟩,?_⟩
    refine⟨⟨_,hc.cell 0 rfl 0 hcur0,trivial,?_⟩,trivial⟩
    refine⟨hc.s' 1 rfl fun wS hS hc=>?_,trivial⟩
    refine⟨hc.s' 1 rfl fun wS hS hc=>?_,trivial⟩
    exact hfin _ (room+((r.s.size:Int)-a)) ⟨r.s.extract 0 a,if (a:Int)<r.pressed then a else r.pressed,true⟩ (if_pos hn2) _ _ _ _ _ rfl (by show ((i:Int)-1).toNat=i-1;omega) (by show ((cap:Int)-1).toNat=cap-1;omega) hc
   ·refine df hn2 ?_
    refine vD (.Q [0,1,2,3,5,6] (.n 4 (.Q [7,8] (.n 9 (.Q [10,11] (.n 12 .fin .stop)) .stop)) .stop)) (fun _=>True) trivial ?_
    have hc:=hc.drew
    refine⟨⟨by omega,by omega⟩,?_⟩
    refine⟨⟨by decide,by show (1:Int)<=(i:Int);omega,by show (i:Int)<=(cap:Int)/\(cap:Int)<=(cap:Int);omega⟩,?_⟩
    refine⟨⟨_,hc.cell 0 rfl 0 hcur0,trivial,?_⟩,trivial⟩
    refine⟨hc.s' 1 rfl fun wS hS hc=>?_,trivial⟩
    refine⟨hc.s' 1 rfl fun wS hS hc=>?_,trivial⟩
    exact hfin _ room r (if_neg hn2) _ _ _ _ _ rfl (by show ((i:Int)-1).toNat=i-1;omega) (by show ((cap:Int)-1).toNat=cap-1;omega) hc
  ·refine df (by show ¬ (a:Int)<r.s.size;omega) ?_
   refine B4 (by rw [beq_eq_false_iff_ne];omega) ?_
   have hA:∃ ad,A=some ad:=by
    cases A with
    | some ad=>exact⟨ad,rfl⟩
    | none=>
     have:i=0:=(hc.fst.none' rfl).1
     omega
   obtain⟨ad,hA⟩:=hA
   obtain⟨gr,cur,eA,hco,hcl,hct,hnc,hcm⟩:=hc.opened hA
   clear hc
   subst eA
   have hc:=hco
   have hcl:cur.length=cap*1:=hcl
   have hct:cur.take (i*1)=((x0::xs).take i).map Value.string:=hct
   have hnc:i<=cap:=hnc
   have hcm:cap<=maxLen:=hcm
   have hcur0:cur[0]?=some (.string x0):=by
    have e:(cur.take (i*1))[0]?=some (.string x0):=by rw [hct,hi2];rfl
    rw [List.getElem?_take] at e
    split at e
    ·exact e
    ·cases e
   have hdrop:(cur.drop 1).take (i-1)=xs.map Value.string:=by
    have e:(cur.take (i*1)).drop 1=xs.map Value.string:=by rw [hct,hi2,List.take_length];rfl
    rw [List.drop_take] at e
    rw [<-e,Nat.mul_one]
   rw [Nat.mul_one] at hcl
   have hfin:∀ (J:Jour) (room':Int) (r':Scroll),J=JL room' r' x0 xs false->∀ (wF:World) (S:Nat->Prop) (A3:Option Addr) (n3 c3:Nat),A3=(if (cap:Int)=1 then some (⟨gr,0,none⟩:Addr) else (some (⟨gr,0,none⟩:Addr)).map (·.add ((1:Int).toNat*1)))->n3=i-1->c3=cap-1->CtxF no (bare w) S wF [(gr,9,cur),(g4,215,A2N gc x0 A3 n3 c3 false)] [] (Sep 0 (Keep w Sx) (ChestK gc b (chL room' r')))->∃ gj,RetOb Sx w (.tuple #[.pointer (some ⟨gj,0,none⟩),.int .i64 0]) (JourK gj gc b J) (.returned (.tuple #[.pointer (some ⟨g4,0,none⟩),.int .i64 0])) wF:=by
    intro J room' r' eJ wF S A3 n3 c3 e3 en3 ec3 hcz
    subst eJ en3 ec3
    refine⟨g4,?_⟩
    by_cases h1:cap=1
    ·rw [if_pos (by omega)] at e3
     subst e3
     have hxs:xs=[]:=by
      have:xs.length=0:=by simp only [List.length_cons] at hi2;omega
      exact List.eq_nil_of_length_eq_zero this
     subst hxs
     simp only [List.length_cons,List.length_nil] at hi2
     exact JourK.leave2 (o:=0) (n:=i-1) (cap:=cap-1) hcz (by simp only [List.length_nil];omega) (by omega) (by omega) (by omega) (by rw [show i-1=0 from by omega];rfl) _
    ·rw [if_neg (by omega)] at e3
     have e4:A3=some ⟨gr,1,none⟩:=by rw [e3,Option.map_some,Addr.add_lit];rfl
     subst e4
     exact JourK.leave2 (n:=i-1) (cap:=cap-1) hcz (by simp only [List.length_cons] at hi2;omega) (by omega) (by omega) (by omega) hdrop _
   by_cases hn2:(a:Int)<(r.s.size:Int)
   ·refine dt hn2 ?_
    have hcu:=fun Sa w hK=>A1k gc b (chL room r) L6 (a:Nat) (by decide) ⟨by show _<=room;omega,by show room<=_;omega⟩ (by rw [Q5];show r.s.size<=_;omega) (by show 1<1000000;decide) Sa w hK
    rw [A5k room r a hnr] at hcu
    obtain⟨S1,Sa,h1,h2,h3,hO⟩:=hc.row
    refine⟨(hcu Sa _ hO).mono fun en wq hq=>?_⟩
    obtain⟨e1,hT,Sn,hSn,hO⟩:=hq
    have hc:=hc.turnO (Keep.stab _ _) h1 h2 h3 hT hSn hO (ChestK.stab _ _ _)
    refine⟨_,e1,?_⟩
    refine vD (.Q [0,1,2,3,5,6] (.n 4 (.Q [7,8] (.n 9 (.Q [10,11] (.n 12 .fin .stop)) .stop)) .stop)) (fun _=>True) trivial ?_
    have hc:=hc.drew
    refine⟨⟨by omega,by omega⟩,?_⟩
    refine⟨⟨by decide,by show (1:Int)<=(i:Int);omega,by show (i:Int)<=(cap:Int)/\(cap:Int)<=(cap:Int);omega⟩,?_⟩
    refine⟨⟨_,hc.cell 0 rfl 0 hcur0,trivial,?_⟩,trivial⟩
    refine⟨hc.s' 1 rfl fun wS hS hc=>?_,trivial⟩
    refine⟨hc.s' 1 rfl fun wS hS hc=>?_,trivial⟩
    exact hfin _ (room+((r.s.size:Int)-a)) ⟨r.s.extract 0 a,if (a:Int)<r.pressed then a else r.pressed,true⟩ (if_pos hn2) _ _ _ _ _ rfl (by show ((i:Int)-1).toNat=i-1;omega) (by show ((cap:Int)-1).toNat=cap-1;omega) hc
   ·refine df hn2 ?_
    refine vD (.Q [0,1,2,3,5,6] (.n 4 (.Q [7,8] (.n 9 (.Q [10,11] (.n 12 .fin .stop)) .stop)) .stop)) (fun _=>True) trivial ?_
    have hc:=hc.drew
    refine⟨⟨by omega,by omega⟩,?_⟩
    refine⟨⟨by decide,by show (1:Int)<=(i:Int);omega,by show (i:Int)<=(cap:Int)/\(cap:Int)<=(cap:Int);omega⟩,?_⟩
    refine⟨⟨_,hc.cell 0 rfl 0 hcur0,trivial,?_⟩,trivial⟩
    refine⟨hc.s' 1 rfl fun wS hS hc=>?_,trivial⟩
    refine⟨hc.s' 1 rfl fun wS hS hc=>?_,trivial⟩
    exact hfin _ room r (if_neg hn2) _ _ _ _ _ rfl (by show ((i:Int)-1).toNat=i-1;omega) (by show ((cap:Int)-1).toNat=cap-1;omega) hc
 | cons y ys=>
  rw [hd] at hsp
  obtain⟨k,a2,ht,hk0,hkl,hna,hsp2⟩:=hsp
  rw [List.length_drop,hlen] at hkl
  have hil:i<(x0::xs).length:=by
   rcases Nat.lt_or_ge i (x0::xs).length with h | h
   ·exact h
   ·rw [List.drop_of_length_le h] at hd;cases hd
  refine dt (by show (a:Int)<r.s.size;omega) ?_
  refine⟨⟨by show (0:Int)<=(a:Int);omega,by show (a:Int)<=(r.s.size:Int);omega,Int.le_refl _⟩,?_⟩
  have htu:=A1r (r.s.extract a r.s.size) (by rw [ByteArray.size_extract];omega) _ (he.sub0 hc)
  rw [V1 r.s a (by omega),show ((⟨(r.s.data.toList.drop a).toArray⟩:ByteArray)).data.toList=r.s.data.toList.drop a from rfl,ht,<-V1 r.s a (by omega)] at htu
  refine hc.q (htu) fun wQ hQ hc=>?_
  refine hc.n fun gv wgv hgv hc=>?_
  refine D1 (m:=1) Tryz.underlying83 A4e rfl (by decide) hc (by rfl) (hc.cells 0 rfl) rfl (by show i+1<=_;simp only [List.length_cons] at hil;omega) (by decide) rfl rfl ?_
  intro A3 cap3 w3 hc
  have hw3:IntKind.i64.wrap ((a:Int)+(k:Int))=((a+k:Nat):Int):=by rw [IntWalk.i64_in _ ⟨by omega,by omega⟩];omega
  refine⟨(i+1,a+k,A3,cap3),⟨rfl,rfl,rfl,congrArg _ hw3,rfl,trivial⟩,⟨hil,by show a+k<=n;omega,hnr,?_,S,?_⟩,by show (x0::xs).length-(i+1)<(x0::xs).length-i;omega⟩
  ·show Splits (r.s.data.toList.drop (a+k)) ((x0::xs).drop (i+1)) (n-(a+k))
   have e1:(x0::xs).drop (i+1)=ys:=by
    rw [<-List.drop_drop,hd]
    rfl
   rw [e1,<-List.drop_drop,show n-(a+k)=a2 from by omega]
   exact hsp2
  ·show CtxF no (bare w) S w3 _ [⟨9,1,A3,i+1,cap3,((x0::xs).take (i+1)).map Value.string⟩] _
   have e1:(x0::xs).take (i+1)=(x0::xs).take i++[y]:=by
    have e2:=List.take_add (l:=x0::xs) (i:=i) (j:=1)
    rw [e2,hd]
    rfl
   rw [e1,List.map_append]
   exact hc.drop
def Sh.jour (H:Sh):Jour:=JL H.room H.scr H.first (H.l.map P9) H.down
def shC (gj:Nat) (k:Known) (x:SX) (A:Option Addr) (cap:Nat) (dn:Bool):List Value:=Y7 (.pointer (some ⟨gj,0,none⟩)) dn (knC k x A cap)
def ShelfK (gs gj gc b:Nat) (H:Sh):Kn:=fun S w=>∃ x A cap,ObjK gs 183 (shC gj H.k x A cap H.down) (KnR H.k x A cap) (JourK gj gc b H.jour) S w
theorem ShelfK.stab (gs gj gc b:Nat) (H:Sh):Stab (ShelfK gs gj gc b H):=fun S w S' w' h f=>by
 obtain⟨x,A,cap,h⟩:=h
 exact⟨x,A,cap,ObjK.stab (KnR.stab _ _ _ _) (JourK.stab _ _ _ _) _ _ _ _ h f⟩
theorem ShelfK.chest {gs gj gc b:Nat} {H:Sh} {S:Nat->Prop} {w:World} (h:ShelfK gs gj gc b H S w):ChestK gc b (chL H.room H.scr) S w:=by
 obtain⟨x,A,cap,h⟩:=h
 exact (h.right (JourK.stab _ _ _ _)).chest
theorem Own.elem {S:Nat->Prop} {n0:Nat} {w:World} {l:List LB} {e sz n cap:Nat} {A:Option Addr} {xs:List Value} (h:Own S n0 w l e sz A n cap xs) {i:Nat} {v:Value} (hv:xs[i]?=some v):∃ ad,A=some ad/\w.cell? (ad.add i)=some v:=by
 rcases h.row.2 with ⟨_,h0⟩ | ⟨g,cp,cur,e1,_,_,_,_,_,_⟩
 ·have e0:=h.row.1
  rw [h0,Nat.zero_mul] at e0
  rw [List.eq_nil_of_length_eq_zero e0] at hv
  cases hv
 ·cases e1
  exact⟨_,rfl,h.row.cells rfl i v hv⟩
theorem _root_.Go.Vc.EnvFree.loc {G S:Nat->Prop} {w w1:World} {l:List LB} {os:List OR} {R O:Kn} {g T:Nat} {cs:List Value} (h:EnvFree G w) (hc:CtxF no (bare w) S w1 l os (Sep 0 (Sep 0 (Keep w G) R) O)) (k:Nat) (hk:l[k]?=some (g,T,cs)):EnvFree (fun x=>x=g) w1:=by
 obtain⟨S1,So,h1,h2,⟨Sk,Sr,k1,k2,k3,k4⟩,h4⟩:=hc.row
 refine h.kept fun x hx hg=>⟨fun e=>?_,(k3 x hx hg).2⟩
 exact (hc.ctx.locs.notS hk).1 (e▸(h1 x (k1 x (k3 x hx hg).1).1).1)
theorem Can.at:∀ {l:List Rc} {k:Known},Can k l->∀ (i:Nat) (hi:i<l.length),l[i].Ok/\B4Y (A2K k (l.take i)) l[i]
 | r::l,k,⟨a,b,c⟩,0,hi=>⟨a,b⟩
 | r::l,k,⟨a,b,c⟩,i+1,hi=>Can.at c i (by simpa using hi)
theorem A90 {l:List Rc} {k:Known} {i:Nat} (hi:i<l.length):A2K k (l.take (i+1))=Y6 (A2K k (l.take i)) l[i]:=by
 rw [List.take_succ_eq_append_getElem hi,A4k]
theorem A4p:∀ (l:List ByteArray),(∀ x∈l,x.size<=400000)->10*l.length<=(C6 l).length
 | [],_=>Nat.zero_le _
 | s::r,h=>by
  have h1:=A1n s (h s (List.mem_cons_self ..))
  have h2:=A4p r fun x hx=>h x (List.mem_cons_of_mem _ hx)
  rw [C6,List.length_append,List.length_cons]
  omega
theorem Sh.Ok.len {H:Sh} (h:H.Ok):H.l.length<=110000:=by
 have h1:=A4p H.texts h.sizes
 have h2:=h.size
 have e:H.texts.length=H.l.length+1:=by
  show (H.first::H.l.map P9).length=_
  rw [List.length_cons,List.length_map]
 unfold Sh.txt at h2
 omega
theorem _root_.Go.Vc.CtxF.midNow {w0 w:World} {S:Nat->Prop} {l:List LB} {os:List OR} {n0 n1:Nat} {K R R' O:Kn} (hc:CtxF no w0 S w l os (Sep n1 (Sep n0 K R) O)) (h:∀ S w,R S w->R' S w) (hK:Stab K) (hR:Stab R') (hO:Stab O):CtxF no w0 S w l os (Sep n1 (Sep n0 K R') O):=
 hc.now (fun hh=>hh.mono (fun _ h2=>h2.mono (fun _ h3=>h3) (fun _ h3=>h _ _ h3)) (fun _ h3=>h3)) (Sep.stab (Sep.stab hK hR) hO)
theorem A6t (gc b:Nat) (C:Chest) (H:Sh) (h:H.Ok) (hd:H.down=false)
  (hj:∀ (Sa:Nat->Prop) (w:World),(∀ x,Sa x->x<w.heap.size)->EnvFree Sa w->ChestK gc b C Sa w->Calls Tryz.prog 138 #[.pointer (some ⟨gc,0,none⟩)] w (fun en w'=>∃ gj,RetOb Sa w (.tuple #[.pointer (some ⟨gj,0,none⟩),.int .i64 0]) (JourK gj gc b H.jour) en w'))
  (Sx:Nat->Prop) (w:World) (hlt:∀ x,Sx x->x<w.heap.size) (he:EnvFree Sx w) (hK:ChestK gc b C Sx w):
  Calls Tryz.prog 89 #[.pointer (some ⟨gc,0,none⟩)] w (fun en w'=>∃ gs gj,RetOb Sx w (.tuple #[.pointer (some ⟨gs,0,none⟩),.int .i64 0]) (ShelfK gs gj gc b H) en w'):=by
 have hc:=ChestK.start hlt hK
 have hlen:=h.len
 refine vE Tryz.func89 ?_
 obtain⟨S1,Sa,h1,h2,h3,hO⟩:=hc.row
 refine⟨(hj Sa _ (fun x hx=>hc.ctx.lt x (h2 x hx).1) (he.kept fun x hx hg=>⟨(h1 x (h3 x hx hg).1).2,(h3 x hx hg).2⟩) hO).mono fun en wq hq=>?_⟩
 obtain⟨gj,e1,hT,Sn,hSn,hO⟩:=hq
 have hc:=hc.turnO (Keep.stab _ _) h1 h2 h3 hT hSn hO (JourK.stab _ _ _ _)
 refine⟨_,e1,?_⟩
 have hc:CtxF _ _ _ _ _ _ (Sep 0 (Sep 0 (Keep w Sx) (fun _ _=>True)) (JourK gj gc b H.jour)):=hc.now (fun h=>by
  obtain⟨S1,So,h1,h2,h3,h4⟩:=h
  exact⟨S1,So,h1,h2,⟨S1,no,fun x hx=>⟨hx,id⟩,(fun x hx=>hx.elim),h3,trivial⟩,h4⟩) (Sep.stab (Sep.stab (Keep.stab _ _) Stab.true) (JourK.stab _ _ _ _))
 refine hc.n fun g6 wg6 hg6 hc=>?_
 refine hc.q (A3s gj gc b H.jour _ _ (hc.row.right (JourK.stab _ _ _ _))) fun wQ hQ hc=>?_
 obtain⟨Sr,_,hSr,hmid⟩:=hc.mid (Nat.zero_le _) (Keep.stab _ _) Stab.true (JourK.stab _ _ _ _)
 refine⟨(B2W H.first H.base h.first _ (he.now hc)).mono fun en wq hq=>?_⟩
 obtain⟨x0,A0,cap0,e1,hb,hR⟩:=hq
 have hc:=(hmid (hc.call hb) (KnR.stab _ _ _ _) (KnR.stab _ _ _ _ _ _ _ _ hR ⟨fun y hy=>hy.elim (fun h=>h.elim) .inr,fun _ _=>rfl⟩)).midNow (fun S w h=>h.2) (Keep.stab _ _) (KnR.stab _ _ _ _) (JourK.stab _ _ _ _)
 refine⟨_,e1,?_⟩
 refine hc.s 0 rfl fun wS hS hc=>?_
 refine⟨(Z1 gj gc b H.jour (by show (H.l.map P9).length<=_;rw [List.length_map];omega) _ _ (hc.row.right (JourK.stab _ _ _ _))).mono fun en wq hq=>?_⟩
 obtain⟨A2,c2,e1,hb,ho⟩:=hq
 have hc:=hc.fresh hb ho
 refine⟨_,e1,?_⟩
 have hnl:H.jour.recs.length=H.l.length:=List.length_map _
 refine⟨Nat,fun i=>[(6,.pointer (some ⟨g6,0,none⟩)),(33,.slice A2 H.jour.recs.length c2),(34,.int .i64 H.jour.recs.length),(35,.int .i64 i)],
  fun i w'=>i<=H.l.length/\∃ S x A cap,CtxF no (bare w) S w' [(g6,183,shC gj (A2K H.base (H.l.take i)) x A cap false)] [⟨9,1,A2,H.jour.recs.length,c2,(H.l.map P9).map Value.string⟩] (Sep 0 (Sep 0 (Keep w Sx) (KnR (A2K H.base (H.l.take i)) x A cap)) (JourK gj gc b H.jour)),fun i _=>H.l.length-i,0,⟨rfl,rfl,rfl,rfl,trivial⟩,⟨Nat.zero_le _,_,x0,A0,cap0,hc⟩,?_⟩
 clear hc
 rintro i w1 u ⟨hi,S,x,A,cap,hc⟩
 by_cases hil:i<H.l.length
 ·refine dt (by omega) ?_
  obtain⟨hr,hcan⟩:=h.can.at i hil
  have hko:(A2K H.base (H.l.take i)).Ok:=Can.ok h.first.ok (h.can.take i)
  obtain⟨ad,rfl,hcell⟩:=Own.elem hc.fst (i:=i) (v:=.string (P9 H.l[i])) (by simp [hil])
  have hnx:=A90 (k:=H.base) hil
  generalize H.l[i]=r at*
  generalize A2K H.base (H.l.take i)=ki at*
  refine⟨⟨by omega,by omega⟩,?_⟩
  refine⟨_,(by rw [Int.toNat_natCast,Nat.mul_one];exact hcell),?_⟩
  obtain⟨Sr,hR,hSr,hmid⟩:=hc.mid (Nat.zero_le _) (Keep.stab _ _) (KnR.stab _ _ _ _) (JourK.stab _ _ _ _)
  refine⟨(A9y ki hko r hr hcan x A cap g6 Sr _ (.pointer (some ⟨gj,0,none⟩)) false (hc.blk 0 rfl) (fun y hy=>⟨hc.ctx.lt y (hSr y hy),fun e=>(hc.ctx.locs.notS (k:=0) rfl).1 (e▸hSr y hy)⟩) hR (he.loc hc 0 rfl)).mono fun en wq hq=>?_⟩
  obtain⟨e1,hT,x',A',cap',hB',hR'⟩:=hq
  have hc:=(hmid (hc.turnL 0 rfl hT hB') (KnR.stab _ _ _ _) hR').midNow (fun S w h=>h.2) (Keep.stab _ _) (KnR.stab _ _ _ _) (JourK.stab _ _ _ _)
  refine⟨_,e1,?_⟩
  refine⟨i+1,⟨rfl,rfl,rfl,congrArg _ (C1 (by omega)),trivial⟩,⟨hil,?_⟩,by show H.l.length-(i+1)<H.l.length-i;omega⟩
  rw [hnx]
  exact⟨_,x',A',cap',hc⟩
 ·refine df (by omega) ?_
  have hi:i=H.l.length:=by omega
  subst hi
  rw [List.take_length] at hc
  obtain⟨k1,k2,Sn,k3,k4⟩:=ObjK.leave hc.rest (.tuple #[.pointer (some ⟨g6,0,none⟩),.int .i64 0])
  refine⟨g6,gj,k1,k2,Sn,k3,x,A,cap,?_⟩
  rw [hd]
  exact k4
end Go.Proofs.YtfekddndgakneaaGreatDoor
section
namespace Go.Vc
open Go Go.RowKit
open Go.Proofs.YtfekddndgakneaaGreatDoor (no RetOb Env ShelfK)
def RowF (w:World) (A:Option Addr) (n cap:Nat) (xs:List Value):Kn:=In (fun x=>w.heap.size<=x) (fun S w'=>Row S w' A n cap xs)
theorem RowF.stab (w:World) (A:Option Addr) (n cap:Nat) (xs:List Value):Stab (RowF w A n cap xs):=In.stab fun _ _ _ _ h f=>h.fut f
section
variable {w0 w w' w1:World} {S Sa:Nat->Prop} {l:List LB} {os:List OR} {R O K X Y:Kn} {g T n0 n1:Nat} {cs cs':List Value}
theorem CtxF.againK (hc:CtxF no (bare w) S w1 [(g,T,cs)] [] (Sep 0 (Sep 0 K R) O)) (hK:∀ S w',K S w'->Keep w Sa S w') (sK:Stab K):
  ∃ Sm:Nat->Prop,(∀ x,Sm x->x<w1.heap.size)/\(∀ x,x<w.heap.size->¬ Sa x->¬ Sm x/\w1.heap[x]?=w.heap[x]?)/\ObjK g T cs R O Sm w1/\(∀ x,Sm x->x=g\/S x)/\∀ {w2:World} {cs':List Value} {R' O':Kn} {Sn:Nat->Prop},Turn Sm w1 w2->(∀ x,Sn x->(Sm x\/w1.heap.size<=x)/\x<w2.heap.size)->ObjK g T cs' R' O' Sn w2->Stab R'->Stab O'->
   ∃ S2,CtxF no (bare w) S2 w2 [(g,T,cs')] [] (Sep 0 (Sep 0 K R') O'):=by
 obtain⟨S1,So,h1,h2,⟨Sk,Sr,k1,k2,k3,k4⟩,h4⟩:=hc.row
 have hSg:¬ S g:=hc.ctx.locs.2.1
 have hr:∀ x,Sr x->S x:=fun x hx=>(h1 x (k2 x hx).1).1
 have hk:∀ x,Sk x->S x/\¬ Sr x/\¬ So x/\x≠g:=fun x hx=>⟨(h1 x (k1 x hx).1).1,(k1 x hx).2,(h1 x (k1 x hx).1).2,fun e=>hSg (e▸(h1 x (k1 x hx).1).1)⟩
 refine⟨fun x=>x=g\/Sr x\/So x,fun x hx=>?_,fun x hx hn=>?_,⟨.inl rfl,hc.blk 0 rfl,Sr,So,fun x hx=>⟨⟨.inr (.inl hx),fun e=>hSg (e▸hr x hx)⟩,(h1 x (k2 x hx).1).2⟩,fun x hx=>⟨⟨.inr (.inr hx),fun e=>hSg (e▸(h2 x hx).1)⟩,Nat.zero_le _⟩,k4,h4⟩,fun x hx=>hx.elim .inl (fun hx=>.inr (hx.elim (hr x) (fun h=>(h2 x h).1))),?_⟩
 ·rcases hx with rfl | hx | hx
  ·exact (hc.blk 0 rfl).lt
  ·exact hc.ctx.lt x (hr x hx)
  ·exact hc.ctx.lt x (h2 x hx).1
 ·obtain⟨i1,i2⟩:=hK _ _ k3 x hx hn
  obtain⟨a,b,c,d⟩:=hk x i1
  exact⟨fun e=>e.elim d (fun e=>e.elim b c),i2⟩
 ·intro w2 cs' R' O' Sn hT hSn hO sR sO
  obtain⟨j1,j2,Sr',So',i1,i2,i3,i4⟩:=hO
  have hnk:∀ x,Sk x->¬ Sn x:=fun x hx hn=>by
   obtain⟨a,b,c,d⟩:=hk x hx
   have hl:=hc.ctx.lt x a
   rcases (hSn x hn).1 with (e | e | e) | e
   ·exact d e
   ·exact b e
   ·exact c e
   ·omega
  have hkeep:∀ x,Sk x->w2.heap[x]?=w1.heap[x]?:=fun x hx=>by
   obtain⟨a,b,c,d⟩:=hk x hx
   exact hT.block x (hc.ctx.lt x a) (fun e=>e.elim d (fun e=>e.elim b c))
  have hklt:∀ x,Sk x->x<w2.heap.size:=fun x hx=>A0H (hkeep x hx) (hc.ctx.lt x (hk x hx).1)
  refine⟨fun x=>x<w2.heap.size/\x≠g,⟨⟨⟨hT.os.trans hc.below.os,hT.tape.trans hc.below.tape,hT.output.trans hc.below.output,Nat.zero_le _,fun k hk=>absurd hk (Nat.not_lt_zero _)⟩,fun _ h=>h.elim,fun b _=>.inr (Nat.zero_le _),fun x hx=>hx.1,⟨Nat.zero_le _,fun h=>h.2 rfl,j2,(fun x hx=>by cases hx),trivial⟩⟩,trivial,?_,Sep.stab (Sep.stab sK sR) sO⟩⟩
  refine⟨fun x=>x<w2.heap.size/\¬ So' x/\x≠g,So',fun x hx=>⟨⟨hx.1,hx.2.2⟩,hx.2.1⟩,fun x hx=>⟨⟨(hSn x (i2 x hx).1.1).2,(i2 x hx).1.2⟩,Nat.zero_le _⟩,⟨Sk,Sr',fun x hx=>⟨⟨hklt x hx,fun e=>hnk x hx (i2 x e).1.1,(hk x hx).2.2.2⟩,fun e=>hnk x hx (i1 x e).1.1⟩,fun x hx=>⟨⟨(hSn x (i1 x hx).1.1).2,(i1 x hx).2,(i1 x hx).1.2⟩,Nat.zero_le _⟩,sK _ _ _ _ k3 ⟨fun _ h=>h,hkeep⟩,i3⟩,i4⟩
theorem ObjK.leaveK (hc:CtxF no (bare w) S w' [(g,T,cs')] [] (Sep 0 (Sep 0 K R) O)) (hK:∀ S w',K S w'->Keep w Sa S w'):
  Turn Sa w w'/\∃ Sn Sk:Nat->Prop,(∀ x,Sn x->(Sa x\/w.heap.size<=x)/\x<w'.heap.size)/\ObjK g T cs' R O Sn w'/\K Sk w'/\(∀ x,Sk x->x<w'.heap.size/\¬ Sn x):=by
 obtain⟨S1,So,h1,h2,⟨Sk,Sr,k1,k2,k3,k4⟩,h4⟩:=hc.row
 have hSg:¬ S g:=hc.ctx.locs.2.1
 have hr:∀ x,Sr x->S x:=fun x hx=>(h1 x (k2 x hx).1).1
 have hkk:=hK _ _ k3
 refine⟨hc.leave hkk,fun x=>x=g\/Sr x\/So x,Sk,fun x hx=>?_,⟨.inl rfl,hc.blk 0 rfl,Sr,So,fun x hx=>⟨⟨.inr (.inl hx),fun e=>hSg (e▸hr x hx)⟩,(h1 x (k2 x hx).1).2⟩,fun x hx=>⟨⟨.inr (.inr hx),fun e=>hSg (e▸(h2 x hx).1)⟩,Nat.zero_le _⟩,k4,h4⟩,k3,fun x hx=>⟨hc.ctx.lt x (h1 x (k1 x hx).1).1,fun e=>?_⟩⟩
 ·have hout:(Sk x->False)->Sa x\/w.heap.size<=x:=fun hn=>by
   rcases Nat.lt_or_ge x w.heap.size with hl | hl
   ·rcases Classical.em (Sa x) with hs | hs
    ·exact .inl hs
    ·exact (hn (hkk x hl hs).1).elim
   ·exact .inr hl
  rcases hx with rfl | hx | hx
  ·exact⟨hout fun hk=>hSg (h1 _ (k1 _ hk).1).1,(hc.blk 0 rfl).lt⟩
  ·exact⟨hout fun hk=>(k1 x hk).2 hx,hc.ctx.lt x (hr x hx)⟩
  ·exact⟨hout fun hk=>(h1 x (k1 x hk).1).2 hx,hc.ctx.lt x (h2 x hx).1⟩
 ·rcases e with rfl | e | e
  ·exact hSg (h1 _ (k1 _ hx).1).1
  ·exact (k1 x hx).2 e
  ·exact (h1 x (k1 x hx).1).2 e
theorem CtxF.toldK {o:OR} (hc:CtxF no (bare w) S w1 l (o::os) (Sep n1 (Sep n0 K R) O)) (hK:∀ S w',K S w'->Keep w Sa S w') (hSa:∀ a,o.A=some a->¬ Sa a.block) (sK:Stab K) (sR:Stab R) (sO:Stab O):
  ∃ S2,CtxF no (bare w) S2 w1 l os (Sep n1 (Sep n0 (fun S w1=>K S w1/\RowF w o.A o.n o.cap o.xs S w1) R) O):=by
 have hout:=hc.fst.out
 obtain⟨S1,So,h1,h2,⟨Sk,Sr,k1,k2,k3,k4⟩,h4⟩:=hc.row
 have hnew:∀ a,o.A=some a->w.heap.size<=a.block:=fun a ha=>by
  rcases Nat.lt_or_ge a.block w.heap.size with h | h
  ·exact absurd (h1 _ (k1 _ (hK _ _ k3 a.block h (hSa a ha)).1).1).1 (hout a ha).1
  ·exact h
 obtain⟨S2,hs,hc2⟩:=hc.told
 refine⟨S2,hc2.now (fun hh=>?_) (Sep.stab (Sep.stab (sK.and (RowF.stab _ _ _ _ _)) sR) sO)⟩
 obtain⟨_,hR1,hR2,hR3⟩:=hh
 have hnS:∀ x,(∃ a,o.A=some a/\a.block=x)->¬ S x:=fun x hx h=>by
  obtain⟨a,ha,rfl⟩:=hx
  exact (hout a ha).1 h
 refine⟨fun x=>S1 x\/(S2 x/\∃ a,o.A=some a/\a.block=x),So,fun x hx=>?_,fun x hx=>⟨hs x (h2 x hx).1,(h2 x hx).2⟩,⟨fun x=>Sk x\/(S2 x/\∃ a,o.A=some a/\a.block=x),Sr,fun x hx=>?_,fun x hx=>⟨.inl (k2 x hx).1,(k2 x hx).2⟩,⟨sK _ _ _ _ k3 ⟨fun x hx=>.inl hx,fun _ _=>rfl⟩,fun x=>S2 x/\∃ a,o.A=some a/\a.block=x,fun x hx=>⟨.inr hx,?_⟩,hR1,hR2,fun hx=>?_⟩,k4⟩,h4⟩
 ·rcases hx with hx | hx
  ·exact⟨hs x (h1 x hx).1,(h1 x hx).2⟩
  ·exact⟨hx.1,fun h=>hnS x hx.2 (h2 x h).1⟩
 ·rcases hx with hx | hx
  ·exact⟨.inl (k1 x hx).1,(k1 x hx).2⟩
  ·exact⟨.inr hx,fun h=>hnS x hx.2 (h1 x (k2 x h).1).1⟩
 ·obtain⟨a,ha,e⟩:=hx.2
  rw [<-e]
  exact hnew a ha
 ·obtain⟨ad,e,hsa,hcl⟩:=hR3 hx
  exact⟨ad,e,⟨hsa,ad,e,rfl⟩,hcl⟩
end
end Go.Vc
end
namespace Go.Proofs.YtfekddndgakneaaGreatDoor
open Go.Vc Go.RowKit Go.Fl Go.ChangeShapes Go.WideShapes Go.ChangeAt
theorem A20 (H:Sh):(H.scr.s.size:Int)=H.txt.length:=by
 show (H.txt.toArray.size:Int)=_
 rw [List.size_toArray]
theorem B8B {H:Sh} (h:H.Ok) (hd:H.down=false) {r:Rc} (hr:r.Ok) (press:Bool):
  B5T H.room H.scr H.first (H.l.map P9) false (P9 r) press=if H.room<E9 (P9 r) then (H.fell.jour,5) else ((H.write r press).jour,0):=by
 have hs:=A3q hr
 unfold B5T
 rw [if_neg (by decide),if_neg (by omega)]
 by_cases h1:H.room<E9 (P9 r)
 ·rw [if_pos h1,if_pos h1]
  rfl
 rw [if_neg h1,if_neg h1]
 have e1:(H.write r press).l.map P9=H.l.map P9++[P9 r]:=by
  show (H.l++[r]).map P9=_
  rw [List.map_append]
  rfl
 have es:(H.write r press).scr.s=H.scr.s++G8 (P9 r):=by
  show (⟨(H.write r press).txt.toArray⟩:ByteArray)=⟨H.txt.toArray⟩++⟨(H9 (P9 r)).toArray⟩
  rw [Sh.write_txt,V9]
 have ep:=Sh.write_pressed h r press
 have er:=Sh.write_room H r press
 have esz:((H.scr.s++G8 (P9 r)).size:Int)=((H.txt++H9 (P9 r)).length:Int):=by
  rw [<-es,A20,Sh.write_txt]
 have ed:(H.write r press).down=false:=hd
 have ek:(H.write r press).scr.kept=(H.kept||press):=rfl
 have goal:∀ p:Bool,p=press->(H.write r press).jour=JL (H.room-E9 (P9 r)) ⟨H.scr.s++G8 (P9 r),(H.write r press).scr.pressed,H.kept||p⟩ H.first (H.l.map P9++[P9 r]) false:=fun p hp=>by
  subst hp
  unfold Sh.jour
  rw [e1,er,ed,<-es]
  rfl
 cases press with
 | true=>
  rw [if_pos rfl,goal true rfl,ep,if_pos rfl,esz,Bool.or_true]
 | false=>
  rw [if_neg (by decide),goal false rfl,ep,if_neg (by decide),Bool.or_false]
  rfl
theorem A75 (g:Nat) (ox oy:Operand) (w:World):(do eqGuard BinOp.eql 132 ox oy (.pointer (some ⟨g,0,none⟩)) (.pointer none);Go.binOp BinOp.eql 132 (.pointer (some ⟨g,0,none⟩)) (.pointer none):Sem Value).run Tryz.prog w=.ok (.bool false) w:=by kernel_rfl
theorem A5l (gs gj:Nat) (k:Known) (x:SX) (A:Option Addr) (cap:Nat) (dn:Bool) (w:World) (hB:Blk w gs 183 (shC gj k x A cap dn)):Calls Tryz.prog 143 #[.pointer (some ⟨gs,0,none⟩)] w (C7 (.bool dn) w):=by
 refine vE Tryz.func143 ?_
 refine⟨.bool false,fun w=>A75 gs _ _ w,?_⟩
 refine⟨_,(hB.cell 12).trans rfl,?_⟩
 exact⟨rfl,Below.refl _ _⟩
theorem B2j (gs gj gc b:Nat) (H:Sh) (h:H.Ok) (S:Nat->Prop) (w:World) (hK:ShelfK gs gj gc b H S w):Calls Tryz.prog 98 #[.pointer (some ⟨gs,0,none⟩)] w (C7 (.int .i64 H.k.seq) w):=by
 obtain⟨x,A,cap,hO⟩:=hK
 have hcl:Go.Vc.cellsAt w ⟨gs,1,none⟩ (knC H.k x A cap) 0:=C3 hO.2.1 1 _ 0 (fun j v hj=>by
  have e:(shC (gj) H.k x A cap H.down)[1+0+j]?=(knC H.k x A cap++[.bool H.down])[j]?:=by
   rw [show 1+0+j=j+1 from by omega]
   rfl
  rw [e,List.getElem?_append_left]
  ·exact hj
  ·rcases Nat.lt_or_ge j (knC H.k x A cap).length with h | h
   ·exact h
   ·rw [List.getElem?_eq_none h] at hj;cases hj)
 refine vE Tryz.func98 ?_
 refine⟨.bool false,fun w=>A75 gs _ _ w,?_⟩
 refine⟨knC H.k x A cap,rfl,hcl,?_⟩
 refine C2 (A1p H.k h.k x A cap w) ?_
 intro w1 h1
 exact⟨rfl,h1⟩
theorem B2k (gs gj gc b:Nat) (H:Sh) (S:Nat->Prop) (w:World) (hK:ShelfK gs gj gc b H S w):Calls Tryz.prog 99 #[.pointer (some ⟨gs,0,none⟩)] w (C7 (.int .i64 H.k.ep) w):=by
 obtain⟨x,A,cap,hO⟩:=hK
 refine vE Tryz.func99 ?_
 refine⟨.bool false,fun w=>A75 gs _ _ w,?_⟩
 refine⟨_,(hO.2.1.cell 10).trans rfl,?_⟩
 exact⟨rfl,Below.refl _ _⟩
theorem A91 (gs gj gc b:Nat) (H:Sh) (S:Nat->Prop) (w:World) (hK:ShelfK gs gj gc b H S w):Calls Tryz.prog 100 #[.pointer (some ⟨gs,0,none⟩)] w (C7 (.int .i64 H.k.ln) w):=by
 obtain⟨x,A,cap,hO⟩:=hK
 refine vE Tryz.func100 ?_
 refine⟨.bool false,fun w=>A75 gs _ _ w,?_⟩
 refine⟨_,(hO.2.1.cell 11).trans rfl,?_⟩
 exact⟨rfl,Below.refl _ _⟩
theorem B4d (gs gj gc b:Nat) (H:Sh) (h:H.Ok) (S:Nat->Prop) (w:World) (hK:ShelfK gs gj gc b H S w):Calls Tryz.prog 97 #[.pointer (some ⟨gs,0,none⟩)] w (B3R 60 8 H.k.pend.length (H.k.pend.map dC).flatten w):=by
 obtain⟨x,A,cap,hO⟩:=hK
 have hR:=(hO.left (KnR.stab _ _ _ _)).2
 have hl:=h.k.len
 refine vE Tryz.func97 ?_
 refine⟨.bool false,fun w=>A75 gs _ _ w,?_⟩
 refine⟨_,(hO.2.1.cell 9).trans rfl,?_⟩
 refine⟨(O8 A H.k.pend.length cap _ (O1 _) (List.length_map _) (by omega) S w hR).mono fun en wq hq=>?_⟩
 obtain⟨A2,cap2,e1,hb,ho⟩:=hq
 exact⟨_,e1,A2,cap2,rfl,hb,ho⟩
theorem I6 (gs gj:Nat) (k:Known) (x:SX) (A:Option Addr) (cap:Nat) (e:Int) (w:World) (hB:Blk w gs 183 (shC gj k x A cap false)):
  Calls Tryz.prog 177 #[.pointer (some ⟨gs,0,none⟩),.int .i64 e] w (fun en w'=>en=.returned (.int .i64 (if e=0 then 0 else 7))/\Turn (fun x=>x=gs) w w'/\Blk w' gs 183 (shC gj k x A cap (e != 0))):=by
 have hc:=CtxF.enterL hB (S:=no) (fun _ h=>h.elim) (R:=fun _ _=>True) trivial Stab.true
 refine vE Tryz.func177 ?_
 by_cases h0:e=0
 ·subst h0
  obtain⟨h1,h2,_⟩:=hc.leaveL Stab.true
  exact⟨rfl,h1,h2⟩
 ·refine B4 (by rw [beq_eq_false_iff_ne];exact h0) ?_
  refine hc.s 0 rfl fun wS hS hc=>?_
  obtain⟨h1,h2,_⟩:=hc.leaveL Stab.true
  refine⟨?_,h1,?_⟩
  ·rw [if_neg h0]
   rfl
  ·rw [show (e != 0)=true from by simpa using h0]
   exact h2
theorem A1t {w:World} {g T:Nat} {cs:List Value} {S:Nat->Prop} (h:Blk w g T cs) (hS:S g) (n:Nat) (hn:n<=1000):Row S w (some ⟨g,0,none⟩) n n cs:=
 ⟨Nat.le_refl _,Nat.le_trans hn (by decide),fun _=>⟨_,rfl,hS,fun j u hu=>by
  rw [Addr.add_lit,Nat.zero_add,h.cell]
  exact hu⟩⟩
theorem RetOb.sh {gs gj gc b:Nat} {H:Sh} {k:Known} {x:SX} {A:Option Addr} {cap:Nat} {dn:Bool} {J:Jour} {Sx S:Nat->Prop} {w w':World} {cs:List Value}
  (hc:CtxF no (bare w) S w' [(gs,183,cs)] [] (Sep 0 (Sep 0 (Keep w Sx) (KnR k x A cap)) (JourK gj gc b J))) (ec:cs=shC gj k x A cap dn) (ek:H.k=k) (ed:H.down=dn) (ej:H.jour=J) (v:Value):RetOb Sx w v (ShelfK gs gj gc b H) (.returned v) w':=by
 subst ek ed ej ec
 obtain⟨h1,h2,Sn,h3,h4⟩:=ObjK.leave hc v
 exact⟨h1,h2,Sn,h3,x,A,cap,h4⟩
def B7B (H:Sh) (r:Rc):Int:=if H.room<E9 (P9 r) then 7 else 0
def A7G (H:Sh) (r:Rc) (press:Bool):Sh:=if H.room<E9 (P9 r) then H.fell else H.write r press
theorem M2 (gs gj gc b:Nat) (H:Sh) (h:H.Ok) (hd:H.down=false) (r:Rc) (hr:r.Ok) (press:Bool) (kind:Int) (v:V) (ev:vRc r=J3 [I4 kind,v]) (x x':SX) (A A':Option Addr) (cap cap':Nat)
  (Sx:Nat->Prop) (w:World) (hlt:∀ x,Sx x->x<w.heap.size) (he:EnvFree Sx w) (hK:ObjK gs 183 (shC gj H.k x A cap false) (fun S w=>KnR H.k x A cap S w/\KnR (Y6 H.k r) x' A' cap' S w) (JourK gj gc b H.jour) Sx w)
  (Sv:Nat->Prop) (B:Option Addr) (c:Nat) (hv:RepC Sv w v (D2 v B c)) (hvd:∀ y,Sv y->y<w.heap.size/\¬ Sx y):
  Calls Tryz.prog 144 #[.pointer (some ⟨gs,0,none⟩),.agg (knC (Y6 H.k r) x' A' cap').toArray,.bool press,.int .i64 kind,.agg (D2 v B c).toArray] w (RetOb Sx w (.int .i64 (B7B H r)) (ShelfK gs gj gc b (A7G H r press))):=by
 have hRs:Stab (fun S w=>KnR H.k x A cap S w/\KnR (Y6 H.k r) x' A' cap' S w):=(KnR.stab _ _ _ _).and (KnR.stab _ _ _ _)
 have hlen:=h.len
 have hc:=hK.enter hlt hRs (JourK.stab _ _ _ _)
 obtain⟨q,hq0⟩:∃ q:Jour × Int,q=if H.room<E9 (P9 r) then (H.fell.jour,5) else ((H.write r press).jour,0):=⟨_,rfl⟩
 have htz:=A3q hr
 have hsz:=h.size
 have hrm:=h.room
 have htt:=h.tot
 have hja:=fun Sa w hlt he hO=>A5j gj gc b H.room H.scr H.first (H.l.map P9) H.down (P9 r) press (by omega) ⟨hrm,by unfold Sh.room;omega⟩ (by have:=A20 H;omega) (by rw [List.length_map];omega) Sa w hlt he hO
 rw [hd,B8B h hd hr press,<-hq0] at hja
 have ej:H.jour=JL H.room H.scr H.first (H.l.map P9) false:=by unfold Sh.jour;rw [hd]
 have hvok:=(A1o hr).2.2
 have hvl:=A71 hr
 rw [ev] at hvok hvl
 have hput:∀ (S:Nat->Prop) (w:World) (g:Nat),RepC S w (J3 [I4 kind,v]) [.int .i64 3,.int .i64 0,.string ⟨#[]⟩,.slice (some ⟨g,0,none⟩) 2 2]->Tab w->Calls Tryz.prog 82 #[.agg #[.int .i64 3,.int .i64 0,.string ⟨#[]⟩,.slice (some ⟨g,0,none⟩) 2 2]] w (C7 (.string (P9 r)) w):=fun S w g hrep ht=>by
  have hp:=X8 (J3 [I4 kind,v]) hvok (by omega) 3 0 ⟨#[]⟩ (some ⟨g,0,none⟩) 2 2 S w hrep ht
  rw [<-ev] at hp
  exact hp
 refine vE Tryz.func144 ?_
 refine hc.n fun g6 wg6 hg6 hc=>?_
 refine hc.n fun g9 wg9 hg9 hc=>?_
 rw [ej] at hc
 refine Drawn.join (α:=Nat) (fun z=>[(0,.pointer (some ⟨gs,0,none⟩)),(6,.pointer (some ⟨g6,0,none⟩)),(11,.int .i64 (if q.2=0 then 0 else 7))])
  (fun z wS=>∃ S2,CtxF no (bare w) S2 wS [(z,79,[.int .i64 1,.int .i64 kind,.string ⟨#[]⟩,.slice none 0 0]++D2 v B c),(g9,79,D2 v B c),(g6,181,knC (Y6 H.k r) x' A' cap'),(gs,183,shC gj H.k x A cap (q.2 != 0))] [] (Sep 0 (Sep 0 (Keep w Sx) (fun S w=>KnR H.k x A cap S w/\KnR (Y6 H.k r) x' A' cap' S w)) (JourK gj gc b q.1))) ?_ ?_
 ·refine vD (.Q [0,1,2,3,5,11] (.n 4 (.n 6 (.n 7 (.n 8 (.n 9 (.n 10 (.n 12 (.n 13 (.q 14 .fin) .stop) .stop) .stop) .stop) .stop) .stop) (.n 7 (.n 6 (.n 8 (.n 9 (.n 10 (.n 12 (.n 13 (.q 14 .fin) .stop) .stop) .stop) .stop) .stop) .stop) .stop)) (.n 6 (.n 4 (.n 7 (.n 8 (.n 9 (.n 10 (.n 12 (.n 13 (.q 14 .fin) .stop) .stop) .stop) .stop) .stop) .stop) (.n 7 (.n 4 (.n 8 (.n 9 (.n 10 (.n 12 (.n 13 (.q 14 .fin) .stop) .stop) .stop) .stop) .stop) (.n 8 (.n 4 (.n 9 (.n 10 (.n 12 (.n 13 (.q 14 .fin) .stop) .stop) .stop) .stop) (.n 9 (.n 4 (.n 10 (.n 12 (.n 13 (.q 14 .fin) .stop) .stop) .stop) (.n 10 (.n 4 (.n 12 (.n 13 (.q 14 .fin) .stop) .stop) .stop) .stop)) .stop)) .stop)) .stop)) (.n 7 (.n 4 (.n 6 (.n 8 (.n 9 (.n 10 (.n 12 (.n 13 (.q 14 .fin) .stop) .stop) .stop) .stop) .stop) .stop) (.n 6 (.n 4 (.n 8 (.n 9 (.n 10 (.n 12 (.n 13 (.q 14 .fin) .stop) .stop) .stop) .stop) .stop) (.n 8 (.n 4 (.n 9 (.n 10 (.n 12 (.n 13 (.q 14 .fin) .stop) .stop) .stop) .stop) (.n 9 (.n 4 (.n 10 (.n 12 (.n 13 (.q 14 .fin) .stop) .stop) .stop) (.n 10 (.n 4 (.n 12 (.n 13 (.q 14 .fin) .stop) .stop) .stop) .stop)) .stop)) .stop)) .stop)) .stop)))) (fun _=>True) trivial ?_
  have hc:=hc.drew
  refine⟨?_,?_⟩
  ·skip
   refine⟨_,hc.cell 2 rfl _ rfl,trivial,?_⟩
   refine⟨?_,?_⟩
   ·skip
    refine hc.q' (O2 kind _) fun wQ hQ hc=>?_
    refine⟨hc.a' 0 rfl rfl ?_,trivial⟩
    refine⟨hc.n' fun gw wgw hgw hc=>?_,trivial⟩
    refine⟨hc.q' (M0 (some ⟨gw,0,none⟩) 2 2 _) fun wQ hQ hc=>?_,trivial⟩
    refine⟨?_,trivial⟩
    obtain⟨S1,So,h1,h2,⟨Sk,Sr,k1,k2,k3,k4⟩,h4⟩:=hc.row
    have hv2:=Keep.of k3 (E8 v _) hv hvd
    refine C2 (hput (fun y=>y=gw\/Sk y) _ gw (by
     rw [J3,RepC]
     exact⟨some ⟨gw,0,none⟩,2,_,rfl,.cons (.leaf _ _ 1 kind ⟨#[]⟩) (.cons (hv2.sub fun b hb=>.inr hb) (.nil _ _)),A1t (hc.blk 0 rfl) (.inl rfl) 2 (by decide)⟩) (he.now hc).tab) ?_
    intro wQ hQ
    have hc:=(hc.quiet hQ).1
    refine⟨trivial,?_⟩
    refine⟨?_,trivial⟩
    obtain⟨S1,Sa,h1,h2,h3,hO⟩:=hc.row
    refine⟨(hja Sa _ (fun x hx=>hc.ctx.lt x (h2 x hx).1) (he.sub h3 h1) hO).mono fun en wq hq=>?_⟩
    obtain⟨e1,hT,Sn,hSn,hO⟩:=hq
    have hc:=hc.turnO (Sep.stab (Keep.stab _ _) hRs) h1 h2 h3 hT hSn hO (JourK.stab _ _ _ _)
    refine⟨_,e1,trivial,?_⟩
    refine⟨⟨(I6 gs gj H.k x A cap q.2 _ (hc.blk 3 rfl)).mono fun en wq hq=>?_⟩,trivial⟩
    obtain⟨e1,hT,hB⟩:=hq
    have hc:=(hc.turnL 3 rfl hT hB).1
    refine⟨_,e1,trivial,?_⟩
    exact⟨gw,⟨rfl,rfl,rfl,trivial⟩,_,hc⟩
   refine⟨hc.a' 0 rfl rfl ?_,trivial⟩
   refine⟨hc.q' (O2 kind _) fun wQ hQ hc=>?_,trivial⟩
   refine⟨hc.n' fun gw wgw hgw hc=>?_,trivial⟩
   refine⟨hc.q' (M0 (some ⟨gw,0,none⟩) 2 2 _) fun wQ hQ hc=>?_,trivial⟩
   refine⟨?_,trivial⟩
   obtain⟨S1,So,h1,h2,⟨Sk,Sr,k1,k2,k3,k4⟩,h4⟩:=hc.row
   have hv2:=Keep.of k3 (E8 v _) hv hvd
   refine C2 (hput (fun y=>y=gw\/Sk y) _ gw (by
    rw [J3,RepC]
    exact⟨some ⟨gw,0,none⟩,2,_,rfl,.cons (.leaf _ _ 1 kind ⟨#[]⟩) (.cons (hv2.sub fun b hb=>.inr hb) (.nil _ _)),A1t (hc.blk 0 rfl) (.inl rfl) 2 (by decide)⟩) (he.now hc).tab) ?_
   intro wQ hQ
   have hc:=(hc.quiet hQ).1
   refine⟨trivial,?_⟩
   refine⟨?_,trivial⟩
   obtain⟨S1,Sa,h1,h2,h3,hO⟩:=hc.row
   refine⟨(hja Sa _ (fun x hx=>hc.ctx.lt x (h2 x hx).1) (he.sub h3 h1) hO).mono fun en wq hq=>?_⟩
   obtain⟨e1,hT,Sn,hSn,hO⟩:=hq
   have hc:=hc.turnO (Sep.stab (Keep.stab _ _) hRs) h1 h2 h3 hT hSn hO (JourK.stab _ _ _ _)
   refine⟨_,e1,trivial,?_⟩
   refine⟨⟨(I6 gs gj H.k x A cap q.2 _ (hc.blk 3 rfl)).mono fun en wq hq=>?_⟩,trivial⟩
   obtain⟨e1,hT,hB⟩:=hq
   have hc:=(hc.turnL 3 rfl hT hB).1
   refine⟨_,e1,trivial,?_⟩
   exact⟨gw,⟨rfl,rfl,rfl,trivial⟩,_,hc⟩
  refine⟨?_,?_⟩
  ·skip
   refine hc.q' (O2 kind _) fun wQ hQ hc=>?_
   refine⟨?_,?_⟩
   ·skip
    refine⟨_,hc.cell 2 rfl _ rfl,trivial,?_⟩
    refine⟨hc.a' 0 rfl rfl ?_,trivial⟩
    refine⟨hc.n' fun gw wgw hgw hc=>?_,trivial⟩
    refine⟨hc.q' (M0 (some ⟨gw,0,none⟩) 2 2 _) fun wQ hQ hc=>?_,trivial⟩
    refine⟨?_,trivial⟩
    obtain⟨S1,So,h1,h2,⟨Sk,Sr,k1,k2,k3,k4⟩,h4⟩:=hc.row
    have hv2:=Keep.of k3 (E8 v _) hv hvd
    refine C2 (hput (fun y=>y=gw\/Sk y) _ gw (by
     rw [J3,RepC]
     exact⟨some ⟨gw,0,none⟩,2,_,rfl,.cons (.leaf _ _ 1 kind ⟨#[]⟩) (.cons (hv2.sub fun b hb=>.inr hb) (.nil _ _)),A1t (hc.blk 0 rfl) (.inl rfl) 2 (by decide)⟩) (he.now hc).tab) ?_
    intro wQ hQ
    have hc:=(hc.quiet hQ).1
    refine⟨trivial,?_⟩
    refine⟨?_,trivial⟩
    obtain⟨S1,Sa,h1,h2,h3,hO⟩:=hc.row
    refine⟨(hja Sa _ (fun x hx=>hc.ctx.lt x (h2 x hx).1) (he.sub h3 h1) hO).mono fun en wq hq=>?_⟩
    obtain⟨e1,hT,Sn,hSn,hO⟩:=hq
    have hc:=hc.turnO (Sep.stab (Keep.stab _ _) hRs) h1 h2 h3 hT hSn hO (JourK.stab _ _ _ _)
    refine⟨_,e1,trivial,?_⟩
    refine⟨⟨(I6 gs gj H.k x A cap q.2 _ (hc.blk 3 rfl)).mono fun en wq hq=>?_⟩,trivial⟩
    obtain⟨e1,hT,hB⟩:=hq
    have hc:=(hc.turnL 3 rfl hT hB).1
    refine⟨_,e1,trivial,?_⟩
    exact⟨gw,⟨rfl,rfl,rfl,trivial⟩,_,hc⟩
   refine⟨hc.a' 0 rfl rfl ?_,trivial⟩
   refine⟨?_,?_⟩
   ·skip
    refine⟨_,hc.cell 2 rfl _ rfl,trivial,?_⟩
    refine⟨hc.n' fun gw wgw hgw hc=>?_,trivial⟩
    refine⟨hc.q' (M0 (some ⟨gw,0,none⟩) 2 2 _) fun wQ hQ hc=>?_,trivial⟩
    refine⟨?_,trivial⟩
    obtain⟨S1,So,h1,h2,⟨Sk,Sr,k1,k2,k3,k4⟩,h4⟩:=hc.row
    have hv2:=Keep.of k3 (E8 v _) hv hvd
    refine C2 (hput (fun y=>y=gw\/Sk y) _ gw (by
     rw [J3,RepC]
     exact⟨some ⟨gw,0,none⟩,2,_,rfl,.cons (.leaf _ _ 1 kind ⟨#[]⟩) (.cons (hv2.sub fun b hb=>.inr hb) (.nil _ _)),A1t (hc.blk 0 rfl) (.inl rfl) 2 (by decide)⟩) (he.now hc).tab) ?_
    intro wQ hQ
    have hc:=(hc.quiet hQ).1
    refine⟨trivial,?_⟩
    refine⟨?_,trivial⟩
    obtain⟨S1,Sa,h1,h2,h3,hO⟩:=hc.row
    refine⟨(hja Sa _ (fun x hx=>hc.ctx.lt x (h2 x hx).1) (he.sub h3 h1) hO).mono fun en wq hq=>?_⟩
    obtain⟨e1,hT,Sn,hSn,hO⟩:=hq
    have hc:=hc.turnO (Sep.stab (Keep.stab _ _) hRs) h1 h2 h3 hT hSn hO (JourK.stab _ _ _ _)
    refine⟨_,e1,trivial,?_⟩
    refine⟨⟨(I6 gs gj H.k x A cap q.2 _ (hc.blk 3 rfl)).mono fun en wq hq=>?_⟩,trivial⟩
    obtain⟨e1,hT,hB⟩:=hq
    have hc:=(hc.turnL 3 rfl hT hB).1
    refine⟨_,e1,trivial,?_⟩
    exact⟨gw,⟨rfl,rfl,rfl,trivial⟩,_,hc⟩
   refine⟨hc.n' fun gw wgw hgw hc=>?_,trivial⟩
   refine⟨?_,?_⟩
   ·skip
    refine⟨_,hc.cell 3 rfl _ rfl,trivial,?_⟩
    refine⟨hc.q' (M0 (some ⟨gw,0,none⟩) 2 2 _) fun wQ hQ hc=>?_,trivial⟩
    refine⟨?_,trivial⟩
    obtain⟨S1,So,h1,h2,⟨Sk,Sr,k1,k2,k3,k4⟩,h4⟩:=hc.row
    have hv2:=Keep.of k3 (E8 v _) hv hvd
    refine C2 (hput (fun y=>y=gw\/Sk y) _ gw (by
     rw [J3,RepC]
     exact⟨some ⟨gw,0,none⟩,2,_,rfl,.cons (.leaf _ _ 1 kind ⟨#[]⟩) (.cons (hv2.sub fun b hb=>.inr hb) (.nil _ _)),A1t (hc.blk 0 rfl) (.inl rfl) 2 (by decide)⟩) (he.now hc).tab) ?_
    intro wQ hQ
    have hc:=(hc.quiet hQ).1
    refine⟨trivial,?_⟩
    refine⟨?_,trivial⟩
    obtain⟨S1,Sa,h1,h2,h3,hO⟩:=hc.row
    refine⟨(hja Sa _ (fun x hx=>hc.ctx.lt x (h2 x hx).1) (he.sub h3 h1) hO).mono fun en wq hq=>?_⟩
    obtain⟨e1,hT,Sn,hSn,hO⟩:=hq
    have hc:=hc.turnO (Sep.stab (Keep.stab _ _) hRs) h1 h2 h3 hT hSn hO (JourK.stab _ _ _ _)
    refine⟨_,e1,trivial,?_⟩
    refine⟨⟨(I6 gs gj H.k x A cap q.2 _ (hc.blk 3 rfl)).mono fun en wq hq=>?_⟩,trivial⟩
    obtain⟨e1,hT,hB⟩:=hq
    have hc:=(hc.turnL 3 rfl hT hB).1
    refine⟨_,e1,trivial,?_⟩
    exact⟨gw,⟨rfl,rfl,rfl,trivial⟩,_,hc⟩
   refine⟨hc.q' (M0 (some ⟨gw,0,none⟩) 2 2 _) fun wQ hQ hc=>?_,trivial⟩
   refine⟨?_,?_⟩
   ·skip
    refine⟨_,hc.cell 3 rfl _ rfl,trivial,?_⟩
    refine⟨?_,trivial⟩
    obtain⟨S1,So,h1,h2,⟨Sk,Sr,k1,k2,k3,k4⟩,h4⟩:=hc.row
    have hv2:=Keep.of k3 (E8 v _) hv hvd
    refine C2 (hput (fun y=>y=gw\/Sk y) _ gw (by
     rw [J3,RepC]
     exact⟨some ⟨gw,0,none⟩,2,_,rfl,.cons (.leaf _ _ 1 kind ⟨#[]⟩) (.cons (hv2.sub fun b hb=>.inr hb) (.nil _ _)),A1t (hc.blk 0 rfl) (.inl rfl) 2 (by decide)⟩) (he.now hc).tab) ?_
    intro wQ hQ
    have hc:=(hc.quiet hQ).1
    refine⟨trivial,?_⟩
    refine⟨?_,trivial⟩
    obtain⟨S1,Sa,h1,h2,h3,hO⟩:=hc.row
    refine⟨(hja Sa _ (fun x hx=>hc.ctx.lt x (h2 x hx).1) (he.sub h3 h1) hO).mono fun en wq hq=>?_⟩
    obtain⟨e1,hT,Sn,hSn,hO⟩:=hq
    have hc:=hc.turnO (Sep.stab (Keep.stab _ _) hRs) h1 h2 h3 hT hSn hO (JourK.stab _ _ _ _)
    refine⟨_,e1,trivial,?_⟩
    refine⟨⟨(I6 gs gj H.k x A cap q.2 _ (hc.blk 3 rfl)).mono fun en wq hq=>?_⟩,trivial⟩
    obtain⟨e1,hT,hB⟩:=hq
    have hc:=(hc.turnL 3 rfl hT hB).1
    refine⟨_,e1,trivial,?_⟩
    exact⟨gw,⟨rfl,rfl,rfl,trivial⟩,_,hc⟩
   refine⟨?_,trivial⟩
   obtain⟨S1,So,h1,h2,⟨Sk,Sr,k1,k2,k3,k4⟩,h4⟩:=hc.row
   have hv2:=Keep.of k3 (E8 v _) hv hvd
   refine C2 (hput (fun y=>y=gw\/Sk y) _ gw (by
    rw [J3,RepC]
    exact⟨some ⟨gw,0,none⟩,2,_,rfl,.cons (.leaf _ _ 1 kind ⟨#[]⟩) (.cons (hv2.sub fun b hb=>.inr hb) (.nil _ _)),A1t (hc.blk 0 rfl) (.inl rfl) 2 (by decide)⟩) (he.now hc).tab) ?_
   intro wQ hQ
   have hc:=(hc.quiet hQ).1
   refine⟨trivial,?_⟩
   refine⟨⟨_,hc.cell 3 rfl _ rfl,trivial,?_⟩,trivial⟩
   refine⟨?_,trivial⟩
   obtain⟨S1,Sa,h1,h2,h3,hO⟩:=hc.row
   refine⟨(hja Sa _ (fun x hx=>hc.ctx.lt x (h2 x hx).1) (he.sub h3 h1) hO).mono fun en wq hq=>?_⟩
   obtain⟨e1,hT,Sn,hSn,hO⟩:=hq
   have hc:=hc.turnO (Sep.stab (Keep.stab _ _) hRs) h1 h2 h3 hT hSn hO (JourK.stab _ _ _ _)
   refine⟨_,e1,trivial,?_⟩
   refine⟨⟨(I6 gs gj H.k x A cap q.2 _ (hc.blk 3 rfl)).mono fun en wq hq=>?_⟩,trivial⟩
   obtain⟨e1,hT,hB⟩:=hq
   have hc:=(hc.turnL 3 rfl hT hB).1
   refine⟨_,e1,trivial,?_⟩
   exact⟨gw,⟨rfl,rfl,rfl,trivial⟩,_,hc⟩
  refine⟨hc.a' 0 rfl rfl ?_,trivial⟩
  refine⟨?_,?_⟩
  ·skip
   refine⟨_,hc.cell 2 rfl _ rfl,trivial,?_⟩
   refine⟨hc.q' (O2 kind _) fun wQ hQ hc=>?_,trivial⟩
   refine⟨hc.n' fun gw wgw hgw hc=>?_,trivial⟩
   refine⟨hc.q' (M0 (some ⟨gw,0,none⟩) 2 2 _) fun wQ hQ hc=>?_,trivial⟩
   refine⟨?_,trivial⟩
   obtain⟨S1,So,h1,h2,⟨Sk,Sr,k1,k2,k3,k4⟩,h4⟩:=hc.row
   have hv2:=Keep.of k3 (E8 v _) hv hvd
   refine C2 (hput (fun y=>y=gw\/Sk y) _ gw (by
    rw [J3,RepC]
    exact⟨some ⟨gw,0,none⟩,2,_,rfl,.cons (.leaf _ _ 1 kind ⟨#[]⟩) (.cons (hv2.sub fun b hb=>.inr hb) (.nil _ _)),A1t (hc.blk 0 rfl) (.inl rfl) 2 (by decide)⟩) (he.now hc).tab) ?_
   intro wQ hQ
   have hc:=(hc.quiet hQ).1
   refine⟨trivial,?_⟩
   refine⟨?_,trivial⟩
   obtain⟨S1,Sa,h1,h2,h3,hO⟩:=hc.row
   refine⟨(hja Sa _ (fun x hx=>hc.ctx.lt x (h2 x hx).1) (he.sub h3 h1) hO).mono fun en wq hq=>?_⟩
   obtain⟨e1,hT,Sn,hSn,hO⟩:=hq
   have hc:=hc.turnO (Sep.stab (Keep.stab _ _) hRs) h1 h2 h3 hT hSn hO (JourK.stab _ _ _ _)
   refine⟨_,e1,trivial,?_⟩
   refine⟨⟨(I6 gs gj H.k x A cap q.2 _ (hc.blk 3 rfl)).mono fun en wq hq=>?_⟩,trivial⟩
   obtain⟨e1,hT,hB⟩:=hq
   have hc:=(hc.turnL 3 rfl hT hB).1
   refine⟨_,e1,trivial,?_⟩
   exact⟨gw,⟨rfl,rfl,rfl,trivial⟩,_,hc⟩
  refine⟨hc.q' (O2 kind _) fun wQ hQ hc=>?_,trivial⟩
  refine⟨?_,?_⟩
  ·skip
   refine⟨_,hc.cell 2 rfl _ rfl,trivial,?_⟩
   refine⟨hc.n' fun gw wgw hgw hc=>?_,trivial⟩
   refine⟨hc.q' (M0 (some ⟨gw,0,none⟩) 2 2 _) fun wQ hQ hc=>?_,trivial⟩
   refine⟨?_,trivial⟩
   obtain⟨S1,So,h1,h2,⟨Sk,Sr,k1,k2,k3,k4⟩,h4⟩:=hc.row
   have hv2:=Keep.of k3 (E8 v _) hv hvd
   refine C2 (hput (fun y=>y=gw\/Sk y) _ gw (by
    rw [J3,RepC]
    exact⟨some ⟨gw,0,none⟩,2,_,rfl,.cons (.leaf _ _ 1 kind ⟨#[]⟩) (.cons (hv2.sub fun b hb=>.inr hb) (.nil _ _)),A1t (hc.blk 0 rfl) (.inl rfl) 2 (by decide)⟩) (he.now hc).tab) ?_
   intro wQ hQ
   have hc:=(hc.quiet hQ).1
   refine⟨trivial,?_⟩
   refine⟨?_,trivial⟩
   obtain⟨S1,Sa,h1,h2,h3,hO⟩:=hc.row
   refine⟨(hja Sa _ (fun x hx=>hc.ctx.lt x (h2 x hx).1) (he.sub h3 h1) hO).mono fun en wq hq=>?_⟩
   obtain⟨e1,hT,Sn,hSn,hO⟩:=hq
   have hc:=hc.turnO (Sep.stab (Keep.stab _ _) hRs) h1 h2 h3 hT hSn hO (JourK.stab _ _ _ _)
   refine⟨_,e1,trivial,?_⟩
   refine⟨⟨(I6 gs gj H.k x A cap q.2 _ (hc.blk 3 rfl)).mono fun en wq hq=>?_⟩,trivial⟩
   obtain⟨e1,hT,hB⟩:=hq
   have hc:=(hc.turnL 3 rfl hT hB).1
   refine⟨_,e1,trivial,?_⟩
   exact⟨gw,⟨rfl,rfl,rfl,trivial⟩,_,hc⟩
  refine⟨hc.n' fun gw wgw hgw hc=>?_,trivial⟩
  refine⟨?_,?_⟩
  ·skip
   refine⟨_,hc.cell 3 rfl _ rfl,trivial,?_⟩
   refine⟨hc.q' (M0 (some ⟨gw,0,none⟩) 2 2 _) fun wQ hQ hc=>?_,trivial⟩
   refine⟨?_,trivial⟩
   obtain⟨S1,So,h1,h2,⟨Sk,Sr,k1,k2,k3,k4⟩,h4⟩:=hc.row
   have hv2:=Keep.of k3 (E8 v _) hv hvd
   refine C2 (hput (fun y=>y=gw\/Sk y) _ gw (by
    rw [J3,RepC]
    exact⟨some ⟨gw,0,none⟩,2,_,rfl,.cons (.leaf _ _ 1 kind ⟨#[]⟩) (.cons (hv2.sub fun b hb=>.inr hb) (.nil _ _)),A1t (hc.blk 0 rfl) (.inl rfl) 2 (by decide)⟩) (he.now hc).tab) ?_
   intro wQ hQ
   have hc:=(hc.quiet hQ).1
   refine⟨trivial,?_⟩
   refine⟨?_,trivial⟩
   obtain⟨S1,Sa,h1,h2,h3,hO⟩:=hc.row
   refine⟨(hja Sa _ (fun x hx=>hc.ctx.lt x (h2 x hx).1) (he.sub h3 h1) hO).mono fun en wq hq=>?_⟩
   obtain⟨e1,hT,Sn,hSn,hO⟩:=hq
   have hc:=hc.turnO (Sep.stab (Keep.stab _ _) hRs) h1 h2 h3 hT hSn hO (JourK.stab _ _ _ _)
   refine⟨_,e1,trivial,?_⟩
   refine⟨⟨(I6 gs gj H.k x A cap q.2 _ (hc.blk 3 rfl)).mono fun en wq hq=>?_⟩,trivial⟩
   obtain⟨e1,hT,hB⟩:=hq
   have hc:=(hc.turnL 3 rfl hT hB).1
   refine⟨_,e1,trivial,?_⟩
   exact⟨gw,⟨rfl,rfl,rfl,trivial⟩,_,hc⟩
  refine⟨hc.q' (M0 (some ⟨gw,0,none⟩) 2 2 _) fun wQ hQ hc=>?_,trivial⟩
  refine⟨?_,?_⟩
  ·skip
   refine⟨_,hc.cell 3 rfl _ rfl,trivial,?_⟩
   refine⟨?_,trivial⟩
   obtain⟨S1,So,h1,h2,⟨Sk,Sr,k1,k2,k3,k4⟩,h4⟩:=hc.row
   have hv2:=Keep.of k3 (E8 v _) hv hvd
   refine C2 (hput (fun y=>y=gw\/Sk y) _ gw (by
    rw [J3,RepC]
    exact⟨some ⟨gw,0,none⟩,2,_,rfl,.cons (.leaf _ _ 1 kind ⟨#[]⟩) (.cons (hv2.sub fun b hb=>.inr hb) (.nil _ _)),A1t (hc.blk 0 rfl) (.inl rfl) 2 (by decide)⟩) (he.now hc).tab) ?_
   intro wQ hQ
   have hc:=(hc.quiet hQ).1
   refine⟨trivial,?_⟩
   refine⟨?_,trivial⟩
   obtain⟨S1,Sa,h1,h2,h3,hO⟩:=hc.row
   refine⟨(hja Sa _ (fun x hx=>hc.ctx.lt x (h2 x hx).1) (he.sub h3 h1) hO).mono fun en wq hq=>?_⟩
   obtain⟨e1,hT,Sn,hSn,hO⟩:=hq
   have hc:=hc.turnO (Sep.stab (Keep.stab _ _) hRs) h1 h2 h3 hT hSn hO (JourK.stab _ _ _ _)
   refine⟨_,e1,trivial,?_⟩
   refine⟨⟨(I6 gs gj H.k x A cap q.2 _ (hc.blk 3 rfl)).mono fun en wq hq=>?_⟩,trivial⟩
   obtain⟨e1,hT,hB⟩:=hq
   have hc:=(hc.turnL 3 rfl hT hB).1
   refine⟨_,e1,trivial,?_⟩
   exact⟨gw,⟨rfl,rfl,rfl,trivial⟩,_,hc⟩
  refine⟨?_,trivial⟩
  obtain⟨S1,So,h1,h2,⟨Sk,Sr,k1,k2,k3,k4⟩,h4⟩:=hc.row
  have hv2:=Keep.of k3 (E8 v _) hv hvd
  refine C2 (hput (fun y=>y=gw\/Sk y) _ gw (by
   rw [J3,RepC]
   exact⟨some ⟨gw,0,none⟩,2,_,rfl,.cons (.leaf _ _ 1 kind ⟨#[]⟩) (.cons (hv2.sub fun b hb=>.inr hb) (.nil _ _)),A1t (hc.blk 0 rfl) (.inl rfl) 2 (by decide)⟩) (he.now hc).tab) ?_
  intro wQ hQ
  have hc:=(hc.quiet hQ).1
  refine⟨trivial,?_⟩
  refine⟨⟨_,hc.cell 3 rfl _ rfl,trivial,?_⟩,trivial⟩
  refine⟨?_,trivial⟩
  obtain⟨S1,Sa,h1,h2,h3,hO⟩:=hc.row
  refine⟨(hja Sa _ (fun x hx=>hc.ctx.lt x (h2 x hx).1) (he.sub h3 h1) hO).mono fun en wq hq=>?_⟩
  obtain⟨e1,hT,Sn,hSn,hO⟩:=hq
  have hc:=hc.turnO (Sep.stab (Keep.stab _ _) hRs) h1 h2 h3 hT hSn hO (JourK.stab _ _ _ _)
  refine⟨_,e1,trivial,?_⟩
  refine⟨⟨(I6 gs gj H.k x A cap q.2 _ (hc.blk 3 rfl)).mono fun en wq hq=>?_⟩,trivial⟩
  obtain⟨e1,hT,hB⟩:=hq
  have hc:=(hc.turnL 3 rfl hT hB).1
  refine⟨_,e1,trivial,?_⟩
  exact⟨gw,⟨rfl,rfl,rfl,trivial⟩,_,hc⟩
 clear hc
 rintro gw u2 w2 ⟨S2,hc⟩
 unfold B7B A7G
 by_cases hroom:H.room<E9 (P9 r)
 ·rw [if_pos hroom] at hq0
  rw [if_pos hroom,if_pos hroom]
  subst hq0
  exact RetOb.sh (H:=H.fell) (dn:=true) (hc.drop.drop.drop.midNow (fun S w h=>h.1) (Keep.stab _ _) (KnR.stab _ _ _ _) (JourK.stab _ _ _ _)) rfl rfl rfl rfl _
 ·rw [if_neg hroom] at hq0
  rw [if_neg hroom,if_neg hroom]
  subst hq0
  refine hc.a 2 rfl rfl ?_
  refine hc.s 3 rfl fun wS hS hc=>?_
  exact RetOb.sh (H:=H.write r press) (dn:=false) (hc.drop.drop.drop.midNow (fun S w h=>h.2) (Keep.stab _ _) (KnR.stab _ _ _ _) (JourK.stab _ _ _ _)) rfl (Sh.write_k H r press) hd rfl _
def B6e (H:Sh) (d:D):Sh × Int:=if H.down then (H,7) else if A08 H.k d=0 then (A7G H (.add d) true,B7B H (.add d)) else (H,A08 H.k d)
theorem B4e {k:Known} {d:D} (h:A08 k d=0):J4 d=true/\B4Y k (.add d):=by
 unfold A08 at h
 split at h
 ·rename_i hm
  split at h
  ·cases h
  ·rename_i hc
   exact⟨hm,by omega,by omega⟩
 ·cases h
theorem A5m (gs gj gc b:Nat) (H:Sh) (h:H.Ok) (d:D) (hdk:d.Ok) (Sx:Nat->Prop) (w:World) (hlt:∀ x,Sx x->x<w.heap.size) (he:EnvFree Sx w) (hK:ShelfK gs gj gc b H Sx w):
  Calls Tryz.prog 91 #[.pointer (some ⟨gs,0,none⟩),.agg (dC d).toArray] w (RetOb Sx w (.int .i64 (B6e H d).2) (ShelfK gs gj gc b (B6e H d).1)):=by
 have hko:=h.k
 obtain⟨x,A,cap,hO⟩:=hK
 have hc:=hO.enter hlt (KnR.stab _ _ _ _) (JourK.stab _ _ _ _)
 obtain⟨q,hq9⟩:∃ q,q=B6e H d:=⟨_,rfl⟩
 rw [<-hq9]
 unfold B6e at hq9
 refine vE Tryz.func91 ?_
 refine hc.n fun g3 wg3 hg3 hc=>?_
 refine hc.q (A5l gs gj H.k x A cap H.down _ (hc.blk 1 rfl)) fun wQ hQ hc=>?_
 cases hd:H.down with
 | true=>
  rw [hd] at hc hq9
  rw [if_pos rfl] at hq9
  subst hq9
  exact RetOb.sh (H:=H) (dn:=true) hc.drop rfl rfl hd rfl _
 | false=>
 rw [hd] at hc hq9
 rw [if_neg (by decide)] at hq9
 refine⟨knC H.k x A cap,rfl,hc.cellsAt 1 rfl 1 (knC H.k x A cap) rfl,?_⟩
 refine hc.n fun g5 wg5 hg5 hc=>?_
 refine hc.s 0 rfl fun wS hS hc=>?_
 refine hc.a 1 rfl rfl ?_
 obtain⟨Sr,hR,hSr,hmid⟩:=hc.mid (Nat.zero_le _) (Keep.stab _ _) (KnR.stab _ _ _ _) (JourK.stab _ _ _ _)
 refine⟨(B2V H.k hko d hdk x A cap g5 Sr _ (hc.blk 0 rfl) (fun y hy=>⟨hc.ctx.lt y (hSr y hy),fun e=>(hc.ctx.locs.notS (k:=0) rfl).1 (e▸hSr y hy)⟩) hR).mono fun en wq hq=>?_⟩
 obtain⟨e1,hT,x',A',cap',hB',hR'⟩:=hq
 have hc:=hmid (hc.turnL 0 rfl hT hB') (KnR.stab _ _ _ _) hR'
 refine⟨_,e1,?_⟩
 by_cases h0:A08 H.k d=0
 rotate_left
 ·rw [if_neg h0] at hq9
  subst hq9
  refine B6 (by simpa using h0) ?_
  exact RetOb.sh (H:=H) (dn:=false) (hc.drop.drop.midNow (fun S w h=>h.1) (Keep.stab _ _) (KnR.stab _ _ _ _) (JourK.stab _ _ _ _)) rfl rfl hd rfl _
 rw [if_pos h0] at hq9
 subst hq9
 obtain⟨hm,hcan⟩:=B4e h0
 have hrc:(Rc.add d).Ok:=⟨hm,hdk⟩
 have ek:B2U H.k d=Y6 H.k (.add d):=(B2a hrc hcan).2
 rw [ek] at hc
 refine B4 (by rw [h0];rfl) ?_
 have J0:=A0P d hdk
 rw [L9 hm] at J0
 have ev:vRc (.add d)=J3 [I4 1,H3 d]:=by
  show J3 [I4 1,E3 d]=_
  rw [L9 hm]
 refine vD (.q 0 (.n 1 (.n 2 (.n 3 (.n 4 (.q 5 .fin) .stop) .stop) .stop) (.n 2 (.n 1 (.n 3 (.n 4 (.q 5 .fin) .stop) .stop) (.n 3 (.n 1 (.n 4 (.q 5 .fin) .stop) .stop) .stop)) .stop))) (fun _=>True) trivial ?_
 have hc:=hc.drew
 refine⟨?_,?_⟩
 ·skip
  refine hc.a' 0 rfl rfl ?_
  refine⟨hc.a' 1 rfl rfl ?_,trivial⟩
  refine⟨?_,trivial⟩
  have hlw:=hc.ctx.lt
  have hgs:=(hc.blk 2 rfl).lt
  refine⟨(J0 _).mono fun en wq hq=>?_⟩
  obtain⟨k1,n1,s1,A1,l1,c1,e1,hb,hrep⟩:=hq
  obtain⟨A5,c5,ecs⟩:=hrep.cells
  unfold D2 at ecs
  cases ecs
  have hc:=(hc.quiet hb).1
  refine⟨_,e1,trivial,?_⟩
  refine⟨?_,trivial⟩
  have hc:=hc.drop.drop
  obtain⟨Sm,hm0,hkp,hm1,hmS,hag⟩:=hc.againK (fun _ _ h=>h) (Keep.stab _ _)
  refine⟨(M2 gs gj gc b H h hd (.add d) hrc true 1 (H3 d) ev x x' A A' cap cap' Sm _ hm0 (he.kept hkp) hm1 _ A1 c1 hrep (fun y hy=>hy.elim (fun h=>h.elim) (fun hy=>⟨hy.2,fun hm=>by
   rcases hmS y hm with e | e
   ·omega
   ·have:=hlw y e
    omega⟩))).mono fun en wr hq=>?_⟩
  obtain⟨e1,hT,Sn,hSn,x2,A2,cap2,hO⟩:=hq
  obtain⟨S2,hc⟩:=hag hT hSn hO (KnR.stab _ _ _ _) (JourK.stab _ _ _ _)
  refine⟨_,e1,trivial,?_⟩
  exact RetOb.sh (H:=A7G H (.add d) true) hc rfl rfl rfl rfl _
 refine⟨hc.a' 1 rfl rfl ?_,trivial⟩
 refine⟨?_,?_⟩
 ·skip
  refine hc.a' 0 rfl rfl ?_
  refine⟨?_,trivial⟩
  have hlw:=hc.ctx.lt
  have hgs:=(hc.blk 2 rfl).lt
  refine⟨(J0 _).mono fun en wq hq=>?_⟩
  obtain⟨k1,n1,s1,A1,l1,c1,e1,hb,hrep⟩:=hq
  obtain⟨A5,c5,ecs⟩:=hrep.cells
  unfold D2 at ecs
  cases ecs
  have hc:=(hc.quiet hb).1
  refine⟨_,e1,trivial,?_⟩
  refine⟨?_,trivial⟩
  have hc:=hc.drop.drop
  obtain⟨Sm,hm0,hkp,hm1,hmS,hag⟩:=hc.againK (fun _ _ h=>h) (Keep.stab _ _)
  refine⟨(M2 gs gj gc b H h hd (.add d) hrc true 1 (H3 d) ev x x' A A' cap cap' Sm _ hm0 (he.kept hkp) hm1 _ A1 c1 hrep (fun y hy=>hy.elim (fun h=>h.elim) (fun hy=>⟨hy.2,fun hm=>by
   rcases hmS y hm with e | e
   ·omega
   ·have:=hlw y e
    omega⟩))).mono fun en wr hq=>?_⟩
  obtain⟨e1,hT,Sn,hSn,x2,A2,cap2,hO⟩:=hq
  obtain⟨S2,hc⟩:=hag hT hSn hO (KnR.stab _ _ _ _) (JourK.stab _ _ _ _)
  refine⟨_,e1,trivial,?_⟩
  exact RetOb.sh (H:=A7G H (.add d) true) hc rfl rfl rfl rfl _
 refine⟨?_,trivial⟩
 have hlw:=hc.ctx.lt
 have hgs:=(hc.blk 2 rfl).lt
 refine⟨(J0 _).mono fun en wq hq=>?_⟩
 obtain⟨k1,n1,s1,A1,l1,c1,e1,hb,hrep⟩:=hq
 obtain⟨A5,c5,ecs⟩:=hrep.cells
 unfold D2 at ecs
 cases ecs
 have hc:=(hc.quiet hb).1
 refine⟨_,e1,trivial,?_⟩
 refine⟨hc.a' 0 rfl rfl ?_,trivial⟩
 refine⟨?_,trivial⟩
 have hc:=hc.drop.drop
 obtain⟨Sm,hm0,hkp,hm1,hmS,hag⟩:=hc.againK (fun _ _ h=>h) (Keep.stab _ _)
 refine⟨(M2 gs gj gc b H h hd (.add d) hrc true 1 (H3 d) ev x x' A A' cap cap' Sm _ hm0 (he.kept hkp) hm1 _ A1 c1 hrep (fun y hy=>hy.elim (fun h=>h.elim) (fun hy=>⟨hy.2,fun hm=>by
  rcases hmS y hm with e | e
  ·omega
  ·have:=hlw y e
   omega⟩))).mono fun en wr hq=>?_⟩
 obtain⟨e1,hT,Sn,hSn,x2,A2,cap2,hO⟩:=hq
 obtain⟨S2,hc⟩:=hag hT hSn hO (KnR.stab _ _ _ _) (JourK.stab _ _ _ _)
 refine⟨_,e1,trivial,?_⟩
 exact RetOb.sh (H:=A7G H (.add d) true) hc rfl rfl rfl rfl _
end Go.Proofs.YtfekddndgakneaaGreatDoor
