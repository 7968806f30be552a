import Derived.Test.YtefdfaeieekioaaGreatDoorP13
import Derived.KernelRfl
set_option maxRecDepth 100000
set_option maxHeartbeats 40000000
set_option linter.unusedVariables false
set_option linter.unusedSimpArgs false
section
namespace Go.Proofs.YtefdfaeieekioaaGreatDoor
open Go.Vc Go.Vx Go.RowKit Go.Fl
noncomputable def und (x:Nat):Int:=cond (Nat.beq (x % 2 ^ 63) 0) 0 (cond (Nat.beq (x / 2 ^ 63) 0) (Int.ofNat ((x % 2 ^ 52+2 ^ 52) / 2 ^ (1075-x % 2 ^ 63 / 2 ^ 52))) (-Int.ofNat ((x % 2 ^ 52+2 ^ 52) / 2 ^ (1075-x % 2 ^ 63 / 2 ^ 52))))
noncomputable def okZ (x:Nat):Bool:=Nat.beq (dbl (und x)) x&&leI 0 (und x)&&leI (und x) 65520
noncomputable def cx (z:Int × Int):EV:=lit (.complex .f64 (dbl z.1) (dbl z.2))
theorem A3O {x:Nat} (h:okZ x=true):x=dbl (und x)/\Is x (und x)/\0<=und x/\und x<65521:=by
 unfold okZ at h
 simp only [Bool.and_eq_true] at h
 obtain⟨⟨h1,h2⟩,h3⟩:=h
 have e:=Nat.eq_of_beq_eq_true h1
 have h2:=J8 h2
 have h3:=J8 h3
 have:=F5 (und x) (by omega)
 rw [e] at this
 exact⟨e.symm,this,h2,by omega⟩
noncomputable def B6L (v:EV) (H:Hp):Bool:=match v with
 | .o (.l (.slice none n c))=>Nat.beq n 0&&Nat.beq c 0
 | .o (.s N o n (.k c))=>Nat.ble c 1000000
 | .o (.s N o n (.j _ _))=>match H.t.get N with
  | some (.r _)=>true
  | some (.c _ sz _)=>not (Nat.beq sz 0)
  | _=>false
 | _=>false
noncomputable def prim (done:List Nat) (n:Nat) (args:List EV) (H:Hp):Option EV:=match n,args with
 | 261,[.o (.l (.complex .f64 x y)),.o (.l (.complex .f64 x' y'))]=>cond (okZ x&&okZ y&&okZ x'&&okZ y') (some (cx ((und x*und x'-und y*und y') % 65521,(und x*und y'+und y*und x') % 65521))) none
 | 176,[.o (.l (.complex .f64 x y))]=>cond (okZ x&&okZ y) (some (lit (.string ⟨(X5 (und x,und y)).toArray⟩))) none
 | 105,[.o (.l (.string t))]=>some (.t [(false,[.l (.complex .f64 (dbl (Y7 t.data.toList).1.1) (dbl (Y7 t.data.toList).1.2))]),(false,[.l (.bool (Y7 t.data.toList).2)])])
 | 177,[v]=>match sliceB v H with
  | some l=>cond (B6L v H) (some (cx (zOn (0,1) l))) none
  | none=>none
 | 216,[.o (.l (.int .i64 n))]=>cond (A2U n) (some (lit (.string ⟨(Lib.itoa n).toArray⟩))) none
 | 213,[.o (.l (.int .i64 n)),.o (.l (.int .i64 (.ofNat 10)))]=>cond (A2U n) (some (lit (.string ⟨(Lib.itoa n).toArray⟩))) none
 | 286,[.o (.l (.string t)),.o (.l (.int .i64 (.ofNat 10))),.o (.l (.int .i64 (.ofNat 64)))]=>cond (Nat.ble t.data.toList.length 1000) (match Lib.parseIntB 64 t.data.toList with
  | .ok n=>some (.t [(false,[.l (.int .i64 n)]),(false,[.l .nilIface])])
  | _=>none) none
 | 173,[.o (.l (.string s)),.o (.l (.int .u8 c))]=>some (lit (.int .i64 (Lib.indexByte s.data.toList c.toNat.toUInt8)))
 | 284,[x]=>some x
 | n,[]=>cond (B7S n done) (some (lit (.bool true))) none
 | _,_=>none
noncomputable def B8a (xs:List EB):Option Ver:=match xs with
 | [.l (.int .i64 v),.l (.bool g),.l (.string b)]=>some ⟨v,g,b⟩
 | _=>none
noncomputable def B8b (xs:List EB):Option Res:=match xs with
 | [.l (.int .i64 e),.l (.int .i64 v)]=>some ⟨e,v⟩
 | _=>none
noncomputable def B8c (xs:List EB):Option Mem:=match xs with
 | [.l (.int .i64 r),.l (.int .i64 e),.l (.int .i64 v)]=>some ⟨r,⟨e,v⟩⟩
 | _=>none
noncomputable def dE (xs:List EB):Option D:=match xs with
 | [.l (.int .i64 a),.l (.string b),.l (.string c),.l (.int .i64 d),.l (.int .i64 e),.l (.string f),.l (.int .i64 g),.l (.int .i64 h)]=>some ⟨a,b,c,d,e,f,g,h⟩
 | _=>none
noncomputable def B8d (xs:List EB):Option (List Int):=match xs with
 | [.l (.int .i64 a),.l (.int .i64 b),.l (.int .i64 c),.l (.int .i64 d),.l (.int .i64 e)]=>some [a,b,c,d,e]
 | _=>none
noncomputable def both {α:Type} (f:List EB->Option α) (r:α->α->Bool) (xs ys:List EB):Option Bool:=match f xs,f ys with
 | some a,some b=>some (r a b)
 | _,_=>none
noncomputable def qEq (T:Nat) (xs ys:List EB):Option Bool:=match T with
 | 36=>both B8b (fun a b=>a.err==b.err&&a.ver==b.ver) xs ys
 | 45=>both dE eqD xs ys
 | 39=>both B8d (fun a b=>a==b) xs ys
 | 101=>both B8c B40 xs ys
 | 147=>both B8a B2V xs ys
 | _=>none
theorem A2h {α:Type} {f:List EB->Option α} {r:α->α->Bool} {xs ys:List EB} {b:Bool} (h:both f r xs ys=some b):∃ x y,f xs=some x/\f ys=some y/\b=r x y:=by
 unfold both at h
 split at h
 ·rename_i x y hx hy
  cases h
  exact⟨x,y,hx,hy,rfl⟩
 ·cases h
section
variable {σ:Sg}
theorem B11 {xs:List EB} {v:Ver} {cs:List Value} (h:B8a xs=some v) (k:All2 (BR σ) xs cs):cs=K2 v:=by
 unfold B8a at h
 split at h
 ·cases h
  match cs,k with
  | [_,_,_],⟨h1,h2,h3,_⟩=>cases h1;cases h2;cases h3;rfl
 ·cases h
theorem B12 {xs:List EB} {v:Res} {cs:List Value} (h:B8b xs=some v) (k:All2 (BR σ) xs cs):cs=[.int .i64 v.err,.int .i64 v.ver]:=by
 unfold B8b at h
 split at h
 ·cases h
  match cs,k with
  | [_,_],⟨h1,h2,_⟩=>cases h1;cases h2;rfl
 ·cases h
theorem B13 {xs:List EB} {v:Mem} {cs:List Value} (h:B8c xs=some v) (k:All2 (BR σ) xs cs):cs=F7 v:=by
 unfold B8c at h
 split at h
 ·cases h
  match cs,k with
  | [_,_,_],⟨h1,h2,h3,_⟩=>cases h1;cases h2;cases h3;rfl
 ·cases h
theorem B7g {xs:List EB} {v:D} {cs:List Value} (h:dE xs=some v) (k:All2 (BR σ) xs cs):cs=dC v:=by
 unfold dE at h
 split at h
 ·cases h
  match cs,k with
  | [_,_,_,_,_,_,_,_],⟨h1,h2,h3,h4,h5,h6,h7,h8,_⟩=>cases h1;cases h2;cases h3;cases h4;cases h5;cases h6;cases h7;cases h8;rfl
 ·cases h
theorem B14 {xs:List EB} {v:List Int} {cs:List Value} (h:B8d xs=some v) (k:All2 (BR σ) xs cs):∃ a b c d e,v=[a,b,c,d,e]/\cs=[.int .i64 a,.int .i64 b,.int .i64 c,.int .i64 d,.int .i64 e]:=by
 unfold B8d at h
 split at h
 ·cases h
  match cs,k with
  | [_,_,_,_,_],⟨h1,h2,h3,h4,h5,_⟩=>cases h1;cases h2;cases h3;cases h4;cases h5;exact⟨_,_,_,_,_,rfl,rfl⟩
 ·cases h
end
theorem B7h (T:Nat) (xs ys:List EB) (r:Bool) (h:qEq T xs ys=some r) (σ:Sg) (cs ds:List Value) (hx:All2 (BR σ) xs cs) (hy:All2 (BR σ) ys ds) (ox oy:Operand) (w:World):
  (do eqGuard .eql T ox oy (.agg cs.toArray) (.agg ds.toArray);Go.binOp .eql T (.agg cs.toArray) (.agg ds.toArray):Sem Value).run Tryz.prog w=.ok (.bool r) w/\
  (do eqGuard .neq T ox oy (.agg cs.toArray) (.agg ds.toArray);Go.binOp .neq T (.agg cs.toArray) (.agg ds.toArray):Sem Value).run Tryz.prog w=.ok (.bool (!r)) w:=by
 unfold qEq at h
 split at h
 ·obtain⟨a,b,h1,h2,rfl⟩:=A2h h
  rw [B12 h1 hx,B12 h2 hy]
  exact⟨A1w B4Q (fun w=>A3f 9998 w a b) ox oy w,A1x B4Q (fun w=>A3f 9998 w a b) ox oy w⟩
 ·obtain⟨a,b,h1,h2,rfl⟩:=A2h h
  rw [B7g h1 hx,B7g h2 hy]
  exact⟨A1w A94 (fun w=>B4O 9998 w a b) ox oy w,A1x A94 (fun w=>B4O 9998 w a b) ox oy w⟩
 ·obtain⟨a,b,h1,h2,rfl⟩:=A2h h
  obtain⟨a0,a1,a2,a3,a4,rfl,rfl⟩:=B14 h1 hx
  obtain⟨b0,b1,b2,b3,b4,rfl,rfl⟩:=B14 h2 hy
  exact⟨A1w A99 (fun w=>A98 9998 w a0 a1 a2 a3 a4 b0 b1 b2 b3 b4) ox oy w,A1x A99 (fun w=>A98 9998 w a0 a1 a2 a3 a4 b0 b1 b2 b3 b4) ox oy w⟩
 ·obtain⟨a,b,h1,h2,rfl⟩:=A2h h
  rw [B13 h1 hx,B13 h2 hy]
  exact⟨A1w B4R (fun w=>A7K 9997 w a b) ox oy w,A1x B4R (fun w=>A7K 9997 w a b) ox oy w⟩
 ·obtain⟨a,b,h1,h2,rfl⟩:=A2h h
  rw [B11 h1 hx,B11 h2 hy]
  exact⟨A1w B4P (fun w=>A7J 9998 w a b) ox oy w,A1x B4P (fun w=>A7J 9998 w a b) ox oy w⟩
 ·cases h
def lateT:List (Nat × Nat × Nat):=[(31,11,3),(127,6,3),(65,5,4),(98,7,1),(54,1,1),(54,1,4),(54,5,8),(73,12,4),(96,2,4),(122,8,3),(131,5,1),(133,6,6),(190,15,1),(41,4,4),(47,8,6)]
def late (g id i:Nat):Bool:=lateT.any fun x=>Nat.beq x.1 g&&Nat.beq x.2.1 id&&Nat.beq x.2.2 i
noncomputable def B15 (done:List Nat):Mach:=⟨Tryz.prog,lay,⟨qEq,B7h⟩,late,prim done⟩
theorem B7i {v:EV} {H:Hp} {σ:Sg} {w0 w:World} {u:Value} {l:List UInt8} (h:sliceB v H=some l) (hc:B6L v H=true) (hR:Rep w0 σ H w) (hu:VR σ v u):∃ A cap,u=.slice A l.length cap/\Row (fun _=>True) w A l.length cap (bv l):=by
 obtain⟨A,cap,rfl,h1,h2⟩:=A5u h hR hu
 have hcap:l.length<=cap/\cap<=maxLen:=by
  unfold B6L at hc
  split at hc
  ·obtain⟨k1,k2⟩:=Bool.and_eq_true_iff.1 hc
   have k1:=Nat.eq_of_beq_eq_true k1
   have k2:=Nat.eq_of_beq_eq_true k2
   have e:Value.slice A l.length cap=.slice none _ _:=hu
   cases e
   rw [k1,k2]
   exact⟨Nat.le_refl _,Nat.zero_le _⟩
  ·obtain⟨q,a,cp,hq,⟨k1,k2,k3⟩,e⟩:=hu
   cases e
   have:=Nat.le_of_ble_eq_true hc
   refine⟨by rw [k2];exact k3,?_⟩
   rw [k2]
   simp only [maxLen]
   omega
  ·rename_i N o n d b
   obtain⟨q,a,cp,hq,⟨k1,k2,k3,k4⟩,e⟩:=hu
   cases e
   refine⟨Nat.le_trans k3 k4,?_⟩
   have hqc:q.c<=maxLen:=by
    split at hc
    ·rename_i xs he
     obtain⟨q',cs,m1,m2,m3,_⟩:=hR.ent N _ he
     rw [hq] at m1
     cases m1
     exact m3.2
    ·rename_i T sz xs he
     obtain⟨q',cur,cs,m1,m2,m3,m4,m5,_⟩:=hR.ent N _ he
     rw [hq] at m1
     cases m1
     exact (m5 fun e=>by rw [e] at hc;cases hc).2
    ·cases hc
   omega
  ·cases hc
 refine⟨A,cap,rfl,hcap.1,hcap.2,fun hne=>?_⟩
 cases A with
 | none=>
  rw [h1 rfl] at hne
  exact absurd rfl hne
 | some a=>exact⟨a,rfl,trivial,fun j v hj=>by
   have hlt:j<l.length:=by
    rcases Nat.lt_or_ge j l.length with h | h
    ·exact h
    ·rw [List.getElem?_eq_none (by rw [A4i];exact h)] at hj;cases hj
   rw [A2x l j hlt] at hj
   cases hj
   rw [h2 a rfl j _ (List.getElem?_eq_getElem hlt),List.getD_eq_getElem?_getD,List.getElem?_eq_getElem hlt]
   rfl⟩
theorem B4k {n:Int} (h:A2U n=true):B3 n:=by
 unfold A2U at h
 cases n with
 | ofNat a=>
  have:=Nat.le_of_ble_eq_true (show Nat.ble a 9223372036854775807=true from h)
  show -9223372036854775808<=(a:Int)/\(a:Int)<=9223372036854775807
  exact⟨by omega,by omega⟩
 | negSucc a=>
  have:=Nat.le_of_ble_eq_true (show Nat.ble a 9223372036854775807=true from h)
  exact⟨by omega,by omega⟩
theorem T1 {n:Nat} {us:List Value} {u:Value} {v:EV} {σ:Sg} {w:World} (hn:lay.fns n=true) {R:Value->World->Prop} (hR:∀ u w',VR σ v u->Below w.heap.size w w'->R u w') (h:Calls Tryz.prog n us.toArray w (C8 u w)) (hv:VR σ v u):X3 Tryz.prog lay n us w R:=by
 unfold X3
 rw [hn,cond_true]
 exact⟨h.mono fun e w' he=>⟨u,he.1,hR u w' hv he.2⟩⟩
def L5 (n:Nat):Prop:=lay.fns n=true/\∀ w,Env w->Calls Tryz.prog n #[] w (C8 (.bool true) w)
theorem B6M (done:List Nat) (hd:∀ n∈done,L5 n) (n:Nat) (args:List EV) (H:Hp) (v:EV) (h:prim done n args H=some v) (w0:World) (σ:Sg) (w:World) (us:List Value) (hE:Env w0) (hR:Rep w0 σ H w) (hu:All2 (VR σ) args us) (R:Value->World->Prop) (hK:∀ u w',VR σ v u->Below w.heap.size w w'->R u w'):X3 Tryz.prog lay n us w R:=by
 have hW:Env w:=hE.below hR.below
 unfold prim at h
 split at h
 ·obtain⟨h1,h2⟩:=B9W h
  cases h2
  simp only [Bool.and_eq_true] at h1
  obtain⟨⟨⟨h1,h2⟩,h3⟩,h4⟩:=h1
  obtain⟨e1,i1,b1,c1⟩:=A3O h1
  obtain⟨e2,i2,b2,c2⟩:=A3O h2
  obtain⟨e3,i3,b3,c3⟩:=A3O h3
  obtain⟨e4,i4,b4,c4⟩:=A3O h4
  obtain⟨u,u',rfl,hu1,hu2⟩:=hu.two
  cases hu1
  cases hu2
  exact T1 (by kernel_rfl) hK (A6x i1 i2 i3 i4 ⟨b1,c1⟩ ⟨b2,c2⟩ ⟨b3,c3⟩ ⟨b4,c4⟩ w) rfl
 ·obtain⟨h1,h2⟩:=B9W h
  cases h2
  obtain⟨h1,h2⟩:=Bool.and_eq_true_iff.1 h1
  obtain⟨e1,i1,b1,c1⟩:=A3O h1
  obtain⟨e2,i2,b2,c2⟩:=A3O h2
  obtain⟨u,rfl,hu1⟩:=hu.one
  have hc:=A1k (z:=(und _,und _)) ⟨⟨b1,c1⟩,⟨b2,c2⟩⟩ w
  rw [<-e1,<-e2] at hc
  cases hu1
  exact T1 (by kernel_rfl) hK hc rfl
 ·cases h
  obtain⟨u,rfl,hu1⟩:=hu.one
  cases hu1
  exact T1 (by kernel_rfl) hK (A1m _ w) ⟨[.complex .f64 _ _,.bool _],⟨M4 _,M4 _,trivial⟩,rfl⟩
 ·split at h
  ·rename_i l hl
   obtain⟨h1,h2⟩:=B9W h
   cases h2
   obtain⟨u,rfl,hu1⟩:=hu.one
   obtain⟨A,cap,rfl,hrow⟩:=B7i hl h1 hR hu1
   exact T1 (by kernel_rfl) hK (A1j rfl (Nat.le_trans hrow.1 hrow.2.1) w hrow) rfl
  ·cases h
 ·obtain⟨h1,h2⟩:=B9W h
  cases h2
  obtain⟨u,rfl,hu1⟩:=hu.one
  cases hu1
  exact T1 (by kernel_rfl) hK (A1L _ (B4k h1) w hW.tab) rfl
 ·obtain⟨h1,h2⟩:=B9W h
  cases h2
  obtain⟨u,u',rfl,hu1,hu2⟩:=hu.two
  cases hu1
  cases hu2
  exact T1 (by kernel_rfl) hK (A6A _ (B4k h1) w hW.tab) rfl
 ·rename_i t
  obtain⟨h1,h2⟩:=B9W h
  split at h2
  ·rename_i n hn
   cases h2
   match us,hu with
   | [_,_,_],⟨h3,h4,h5,_⟩=>
    cases h3
    cases h4
    cases h5
    have:=A7B t.data.toList (by have:=Nat.le_of_ble_eq_true h1;omega) n hn w
    exact T1 (by kernel_rfl) hK this ⟨[.int .i64 n,.nilIface],⟨M4 _,M4 _,trivial⟩,rfl⟩
  ·cases h2
 ·cases h
  obtain⟨u,u',rfl,hu1,hu2⟩:=hu.two
  cases hu1
  cases hu2
  exact T1 (by kernel_rfl) hK ((Tryz.strings_IndexByte _ _ w).mono fun e w' he=>⟨he.1,by rw [he.2];exact Below.refl _ _⟩) rfl
 ·cases h
  obtain⟨u,rfl,hu1⟩:=hu.one
  unfold X3
  rw [show lay.fns 284=false by kernel_rfl,cond_false]
  exact⟨⟨u,w,A0y u w,hK u w hu1 (Below.refl _ _)⟩⟩
 ·obtain⟨h1,h2⟩:=B9W h
  cases h2
  rw [A6j] at h1
  have hin:=List.contains_iff_mem.1 h1
  have:=hu.none
  subst this
  exact T1 (hd _ hin).1 hK ((hd _ hin).2 w hW) rfl
 ·cases h
theorem B6N {done:List Nat} (hd:∀ n∈done,L5 n):MachOk (B15 done) Env:=⟨lay_ok,by kernel_rfl,B6M done hd⟩
theorem T2 {done:List Nat} (hd:∀ n∈done,L5 n) {n fuel:Nat} (hn:lay.fns n=true) (h:A88 (B15 done) fuel n [] ⟨.e,0⟩ T8=true):L5 n:=⟨hn,fun w hw=>B4D (B6N hd) hn h hw⟩
end Go.Proofs.YtefdfaeieekioaaGreatDoor
end
namespace Go.Proofs.YtefdfaeieekioaaGreatDoor
open Go.Vc Go.Vx Go.RowKit
theorem J0:∀ n∈([]:List Nat),L5 n:=fun n h=>by cases h
theorem G0 {l:List Nat} {n:Nat} (h:L5 n) (k:∀ n∈l,L5 n):∀ m∈n::l,L5 m:=fun m hm=>by
 cases hm with
 | head=>exact h
 | tail _ hm=>exact k m hm
theorem B9P:A88 (B15 []) 50 298 [] ⟨.e,0⟩ T8=true:=by kernel_rfl
theorem B6O:L5 298:=T2 J0 (by kernel_rfl) B9P
theorem B9Q:A88 (B15 [298]) 50 243 [] ⟨.e,0⟩ T8=true:=by kernel_rfl
theorem B8e:L5 243:=T2 (G0 B6O J0) (by kernel_rfl) B9Q
theorem B9R:A88 (B15 [243,298]) 50 141 [] ⟨.e,0⟩ T8=true:=by kernel_rfl
theorem B7j:L5 141:=T2 (G0 B8e (G0 B6O J0)) (by kernel_rfl) B9R
theorem B9S:A88 (B15 [298]) 50 249 [] ⟨.e,0⟩ T8=true:=by kernel_rfl
theorem B8f:L5 249:=T2 (G0 B6O J0) (by kernel_rfl) B9S
theorem B9T:A88 (B15 []) 50 142 [] ⟨.e,0⟩ T8=true:=by kernel_rfl
theorem B8g:L5 142:=T2 J0 (by kernel_rfl) B9T
theorem B9U:A88 (B15 [249,141]) 50 152 [] ⟨.e,0⟩ T8=true:=by kernel_rfl
theorem B8h:L5 152:=T2 (G0 B8f (G0 B7j J0)) (by kernel_rfl) B9U
theorem B8i:A88 (B15 [141]) 50 43 [] ⟨.e,0⟩ T8=true:=by kernel_rfl
theorem B7k:L5 43:=T2 (G0 B7j J0) (by kernel_rfl) B8i
theorem B8j:A88 (B15 [152,142]) 50 44 [] ⟨.e,0⟩ T8=true:=by kernel_rfl
theorem B7l:L5 44:=T2 (G0 B8h (G0 B8g J0)) (by kernel_rfl) B8j
theorem B8k:A88 (B15 [43,44]) 50 15 [] ⟨.e,0⟩ T8=true:=by kernel_rfl
theorem B7m:L5 15:=T2 (G0 B7k (G0 B7l J0)) (by kernel_rfl) B8k
theorem A6n (w:World) (hw:Env w):Calls Tryz.prog 15 #[] w (C8 (.bool true) w):=B7m.2 w hw
end Go.Proofs.YtefdfaeieekioaaGreatDoor
namespace Go.Proofs.YtefdfaeieekioaaGreatDoor
open Go.Vc Go.RowKit Go.Fl Go.ChangeShapes Go.WideShapes Go.ChangeAt
def B2C (j:Nat):D:=⟨2,⟨#[107]⟩,⟨#[]⟩,0,0,⟨#[]⟩,4294967296+((j:Int)+1),0⟩
def B4E (i:Nat):List D:=(List.range i).map B2C
theorem A4R (i:Nat):(B4E i).length=i:=by unfold B4E;rw [List.length_map,List.length_range]
theorem B16 (i:Nat):B4E (i+1)=B4E i++[B2C i]:=by unfold B4E;rw [List.range_succ,List.map_append];rfl
theorem B17 {j:Nat} (h:j<=100):(B2C j).Ok:=by
 have h1:X6 ⟨#[107]⟩:=by show 1<=9223372036854775807;decide
 have h0:X6 ⟨#[]⟩:=by show 0<=9223372036854775807;decide
 have z:B3 0:=by unfold B3;decide
 exact⟨by show B3 2;unfold B3;decide,h1,h0,z,z,h0,by show B3 (4294967296+((j:Int)+1));unfold B3;omega,z⟩
theorem B8m {j:Nat} (h:j<=100):B2 (4294967296+((j:Int)+1))=1:=by
 unfold B2
 rw [if_neg (by omega)]
 omega
theorem B4F {j:Nat} (h:j<=100):L3 (B2C j)=true:=by
 have h1:A8A ⟨#[107]⟩=true:=by kernel_rfl
 have h3:mt ⟨#[]⟩=true:=by kernel_rfl
 show (A8A ⟨#[107]⟩&&!(B2 (4294967296+((j:Int)+1))==0)&&!decide ((0:Int)<0)&&!decide (4294967296+((j:Int)+1)<0)&&(mt ⟨#[]⟩&&(0:Int)==0&&mt ⟨#[]⟩&&(0:Int)==0))=true
 rw [h1,h3,B8m h,decide_eq_false (show ¬ 4294967296+((j:Int)+1)<0 by omega)]
 rfl
theorem B4G {H:Sh} {i:Nat} (hf:Fit H (1+i)) (hi:i<=20) (hk:H.k=⟨A4z,B4E i,1,0⟩):∃ H',Fit H' (1+(i+1))/\H'.k=⟨A4z,B4E (i+1),1,0⟩/\B9Y (l2 H 1 100 []) (B1O 1 (i:Int) [B2C i]) 1=(l2 H' 1 100 [],[B5n 1 (i:Int) [B2C i]]):=by
 have hs:H.k.seq=(i:Int):=by rw [hk];show (0:Int)+((B4E i).length:Int)=i;rw [A4R];omega
 have hp:H.k.pend.length=i:=by rw [hk];exact A4R i
 obtain⟨H',e1,e2,e3⟩:=B3U (now:=1) (til:=100) (dn:=[]) hf (by omega) (ep:=1) (by decide) (by rw [hk]) (by decide) (B17 (j:=i) (by omega)) (B4F (by omega)) (by omega) (by rw [hs];show (i:Int)<1099511627776;omega)
 rw [hs] at e3
 exact⟨H',e2,by rw [e1,hk,B16],e3⟩
end Go.Proofs.YtefdfaeieekioaaGreatDoor
section
namespace Go.Proofs.YtefdfaeieekioaaGreatDoor
open Go.Vc Go.RowKit Go.Fl Go.ChangeShapes Go.WideShapes Go.ChangeAt
theorem C2y {c:List Value} (h:c.length=21):∃ a0 a1 a2 a3 a4 a5 a6 a7 a8 a9 a10 a11 a12 a13 a14 a15 a16 a17 a18 a19 a20,c=[a0,a1,a2,a3,a4,a5,a6,a7,a8,a9,a10,a11,a12,a13,a14,a15,a16,a17,a18,a19,a20]:=by
 match c,h with
 | [a0,a1,a2,a3,a4,a5,a6,a7,a8,a9,a10,a11,a12,a13,a14,a15,a16,a17,a18,a19,a20],_=>exact⟨a0,a1,a2,a3,a4,a5,a6,a7,a8,a9,a10,a11,a12,a13,a14,a15,a16,a17,a18,a19,a20,rfl⟩
theorem C3L:Tryz.prog.cellsOf 43=21:=by kernel_rfl
theorem C3M:Tryz.prog.cellsOf 31=3:=by kernel_rfl
theorem C3N:Tryz.prog.cellsOf 29=1:=by kernel_rfl
theorem C2z:Tryz.prog.cellsOf 22=1:=by kernel_rfl
structure Op11 where
 kind:Int
 i:Int
 v:Wd
section
variable {H:Type} {enc:TypeId × Value->H} {w:World} {base:Nat} {spare:Nat->Bool} {held:Bool} {fuel:Nat} {cs:List Value} {x:DataW H × List MemPlace}
theorem C3O (h:DataW.trod enc Tryz.prog w base spare held fuel 36 cs=some x):∃ r:Res,cs=[.int .i64 r.err,.int .i64 r.ver]/\B3 r.err/\B3 r.ver:=by
 obtain⟨hl,hf⟩:=C0q Tryz.underlying36 h
 rw [C2r] at hl
 obtain⟨c0,c1,rfl⟩:=B4M hl
 obtain⟨_,_,h0⟩:=fld hf 0 _ rfl 34 rfl 1 C3A 0 rfl
 obtain⟨_,_,h1⟩:=fld hf 1 _ rfl 2 rfl 1 B8F 1 rfl
 obtain⟨n0,e0,k0⟩:=B4T Tryz.underlying34 h0
 obtain⟨n1,e1,k1⟩:=B4T Tryz.underlying2 h1
 cases e0;cases e1
 exact⟨⟨n0,n1⟩,rfl,k0,k1⟩
theorem C3P (h:DataW.trod enc Tryz.prog w base spare held fuel 31 cs=some x):∃ (r:Ros) (A:Option Addr) (cap:Nat),cs=R9 r A cap/\RosR r A cap (inW w) w/\r.Ok:=by
 obtain⟨hl,hf⟩:=C0q Tryz.underlying31 h
 rw [C3M] at hl
 obtain⟨c0,c1,c2,rfl⟩:=C19 hl
 obtain⟨_,_,h0⟩:=fld hf 0 _ rfl 2 rfl 1 B8F 0 rfl
 obtain⟨_,_,h1⟩:=fld hf 1 _ rfl 29 rfl 1 C3N 1 rfl
 obtain⟨_,_,h2⟩:=fld hf 2 _ rfl 3 rfl 1 C1L 2 rfl
 obtain⟨n0,e0,k0⟩:=B4T Tryz.underlying2 h0
 obtain⟨A,cap,l,e1,hr,hk⟩:=B5N iC B3 (by rw [C1L];decide) (fun _ _ _ h=>B4T Tryz.underlying3 h) Tryz.underlying29 h1
 obtain⟨n2,e2,k2⟩:=B4T Tryz.underlying3 h2
 cases e0;cases e1;cases e2
 exact⟨⟨n0,l,n2⟩,A,cap,rfl,hr,⟨k0,hk,k2⟩⟩
theorem C20 (h:DataW.trod enc Tryz.prog w base spare held fuel 43 cs=some x):∃ (v:Wd) (y:WX),cs=wdC v y/\WdR v y (inW w) w/\v.Ok:=by
 obtain⟨hl,hf⟩:=C0q Tryz.underlying43 h
 rw [C3L] at hl
 obtain⟨c0,c1,c2,c3,c4,c5,c6,c7,c8,c9,c10,c11,c12,c13,c14,c15,c16,c17,c18,c19,c20,rfl⟩:=C2y hl
 obtain⟨_,_,h0⟩:=fld hf 0 _ rfl 3 rfl 1 C1L 0 rfl
 obtain⟨_,_,h1⟩:=fld hf 1 _ rfl 3 rfl 1 C1L 1 rfl
 obtain⟨_,_,h2⟩:=fld hf 2 _ rfl 3 rfl 1 C1L 2 rfl
 obtain⟨_,_,h3⟩:=fld hf 3 _ rfl 2 rfl 1 B8F 3 rfl
 obtain⟨_,_,h4⟩:=fld hf 4 _ rfl 2 rfl 1 B8F 4 rfl
 obtain⟨_,_,h5⟩:=fld hf 5 _ rfl 2 rfl 1 B8F 5 rfl
 obtain⟨_,_,h6⟩:=fld hf 6 _ rfl 2 rfl 1 B8F 6 rfl
 obtain⟨_,_,h7⟩:=fld hf 7 _ rfl 36 rfl 2 C2r 7 rfl
 obtain⟨_,_,h8⟩:=fld hf 8 _ rfl 31 rfl 3 C3M 9 rfl
 obtain⟨_,_,h9⟩:=fld hf 9 _ rfl 22 rfl 1 C2z 12 rfl
 obtain⟨_,_,h10⟩:=fld hf 10 _ rfl 41 rfl 8 C3C 13 rfl
 obtain⟨n0,e0,k0⟩:=B4T Tryz.underlying3 h0
 obtain⟨n1,e1,k1⟩:=B4T Tryz.underlying3 h1
 obtain⟨n2,e2,k2⟩:=B4T Tryz.underlying3 h2
 obtain⟨n3,e3,k3⟩:=B4T Tryz.underlying2 h3
 obtain⟨n4,e4,k4⟩:=B4T Tryz.underlying2 h4
 obtain⟨n5,e5,k5'⟩:=B4T Tryz.underlying2 h5
 obtain⟨n6,e6,k6⟩:=B4T Tryz.underlying2 h6
 obtain⟨r,e7,k7,k7'⟩:=C3O h7
 obtain⟨ro,A,cA,e8,k8,k8'⟩:=C3P h8
 obtain⟨B,cB,l,e9,k9,k9'⟩:=B5N dC D.Ok (by rw [C1H];decide) (fun _ _ _ h=>C1N h) Tryz.underlying22 h9
 obtain⟨st,k10,k10'⟩:=C2Z h10
 have k5:=k10
 obtain⟨y,e10⟩:=k10.stX
 have k10:RepS (inW w) w st (stX st y):=e10▸k10
 have hfive:st.lows.length=5:=by
  obtain⟨_,_,_,_,_,_,_,_,_,_,_,el,_⟩:=k5.shape
  rw [el]
  rfl
 cases e0;cases e1;cases e2;cases e3;cases e4;cases e5;cases e6;cases e7;cases e8;cases e9;cases e10
 exact⟨⟨n0,n1,n2,n3,n4,n5,n6,r,ro,l,st⟩,⟨A,cA,B,cB,y⟩,rfl,⟨⟨k8,k9⟩,k10⟩,⟨k0,k1,k2,k3,k4,k5',k6,k7,k7',k8',k9',k10',hfive⟩⟩
end
section
variable {H:Type} {enc:TypeId × Value->H} {W:World} {sp:Nat->Bool} {hd:Bool} {v:Value} {d:DataW H} {p:List MemPlace} {base:Nat}
theorem C2R (h:DataW.Trod enc Tryz.prog W 0 sp hd 43 v d p) (k:Value.okWide Tryz.prog W .any base 43 v):∃ (a:Wd) (y:WX),v=.agg (wdC a y).toArray/\WdR a y (inW W) W/\a.Ok:=by
 obtain⟨cs,rfl,_⟩:=okWide_struct Tryz.underlying43 k
 obtain⟨fuel,hf⟩:=h
 obtain⟨a,y,e,hr,ha⟩:=C20 hf
 refine⟨a,y,?_,hr,ha⟩
 rw [<-show (Value.agg cs).cells.toList=wdC a y from e]
 rfl
end
end Go.Proofs.YtefdfaeieekioaaGreatDoor
end
