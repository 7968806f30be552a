import Derived.Test.YtefdfaeieekioaaGreatDoorP11
import Derived.ChangeKeysEq
import Derived.Deep.AppendSrc
import Derived.Deep.Upon
set_option maxRecDepth 100000
set_option maxHeartbeats 40000000
set_option linter.unusedVariables false
set_option linter.unusedSimpArgs false
section
namespace Go.Vx
open Go Go.Vc Go.RowKit
def B8P (d:TD) (x:EV):Option EV:=match d,x with
 | .str,.o (.l (.string s))=>some (lit (.int .i64 (Int.ofNat s.data.toList.length)))
 | .slice _ _,.o (.l (.slice none n _))=>some (lit (.int .i64 (Int.ofNat n)))
 | .slice _ _,.o (.s _ _ n _)=>some (lit (.int .i64 (Int.ofNat n)))
 | .array n _ _ _,_=>some (lit (.int .i64 (Int.ofNat n)))
 | _,_=>none
theorem B5z {P:Program} {d:TD} {x v:EV} {σ:Sg} {u:Value} {t T:Nat} {K:Value->Prop} (h:B8P d x=some v) (hx:VR σ x u) (hK:∀ u,VR σ v u->K u):(match (generalizing:=false) d,u with
  | .str,.string s=>K (.int .i64 s.size)
  | .slice ..,.slice _ n _=>K (.int .i64 n)
  | .array n ..,_=>K (.int .i64 n)
  | _,x=>Pure P (Builtin.len_ #[t] T #[x]) K:Prop):=by
 unfold B8P at h
 split at h
 ·cases hx;cases h;exact hK _ rfl
 ·cases hx;cases h;exact hK _ rfl
 ·obtain⟨q,a,cp,_,_,rfl⟩:=hx
  cases h
  exact hK _ rfl
 ·cases h;exact hK _ rfl
 ·cases h
noncomputable def A2Y (L:Lay) (b:Builtin) (ats:List Nat) (xs:List EV):Option EV:=
 match b,ats,xs with
 | .len,[t],[x]=>B8P (L.ty t) x
 | .min,_,[.o (.l (.int k x)),.o (.l (.int _ y))]=>some (lit (.int k (cond (leI x y) x y)))
 | .max,_,[.o (.l (.int k x)),.o (.l (.int _ y))]=>some (lit (.int k (cond (leI y x) x y)))
 | .real,_,[.o (.l (.complex k re _))]=>some (lit (.float k re))
 | .imag,_,[.o (.l (.complex k _ im))]=>some (lit (.float k im))
 | .complex,_,[.o (.l (.float .f64 re)),.o (.l (.float .f64 im))]=>some (lit (.complex .f64 re im))
 | _,_,_=>none
noncomputable def B6V (F:Tr EV) (l:List Operand):Option (List EV):=
 List.rec (motive:=fun _=>Option (List EV)) (some []) (fun x _ ih=>match xEv F x with
  | some v=>match ih with
   | some r=>some (v::r)
   | none=>none
  | none=>none) l
theorem A2Z {σ:Sg} {F:Tr EV} {f:Fr} (hF:FR σ F f):∀ {l:List Operand} {ys:List EV},B6V F l=some ys->All2 (VR σ) ys (l.map (ev f))
 | [],_,h=>by cases h;trivial
 | p::l,ys,h=>by
  replace h:(match xEv F p with
   | some v=>match B6V F l with
    | some r=>some (v::r)
    | none=>none
   | none=>none)=some ys:=h
  split at h
  ·rename_i v hv
   split at h
   ·rename_i r hr
    cases h
    exact⟨B9 hF hv,A2Z hF hr⟩
   ·cases h
  ·cases h
noncomputable def B7t (F:Tr EV) (l:List Operand):Option (List (Nat × Nat)):=
 List.rec (motive:=fun _=>Option (List (Nat × Nat))) (some []) (fun x _ ih=>match xEv F x with
  | some (.o (.p N o))=>match ih with
   | some r=>some ((N,o)::r)
   | none=>none
  | _=>none) l
theorem B1b {σ:Sg} {F:Tr EV} {f:Fr} (hF:FR σ F f):∀ {l:List Operand} {ys:List (Nat × Nat)},B7t F l=some ys->All2 (PR σ) ys (l.map (ev f))
 | [],_,h=>by cases h;trivial
 | p::l,ys,h=>by
  replace h:(match xEv F p with
   | some (.o (.p N o))=>match B7t F l with
    | some r=>some ((N,o)::r)
    | none=>none
   | _=>none)=some ys:=h
  split at h
  ·rename_i N o hv
   split at h
   ·rename_i r hr
    cases h
    exact⟨B9 hF hv,B1b hF hr⟩
   ·cases h
  ·cases h
section
variable {P:Program} {L:Lay} {Q:Eqs P} {σ:Sg} {F:Tr EV} {f:Fr} {T:Nat} {K:Value->Prop}
theorem All2.one {α β:Type} {R:α->β->Prop} {x:α} {us:List β} (h:All2 R [x] us):∃ u,us=[u]/\R x u:=by
 match us,h with
 | [u],h=>exact⟨u,rfl,h.1⟩
theorem All2.two {α β:Type} {R:α->β->Prop} {x y:α} {us:List β} (h:All2 R [x,y] us):∃ u u',us=[u,u']/\R x u/\R y u':=by
 match us,h with
 | [u,u'],h=>exact⟨u,u',rfl,h.1,h.2.1⟩
theorem A5i {b:Builtin} {ats:List Nat} {xs:List EV} {us:List Value} {v:EV} {cs:Array Bool} (h:A2Y L b ats xs=some v) (hx:All2 (VR σ) xs us) (hK:∀ u,VR σ v u->K u):cond (L6 b) (A0u P L b ats.toArray T cs us K) False:=by
 unfold A2Y at h
 split at h
 ·rename_i t x
  obtain⟨u,rfl,hy⟩:=hx.one
  show A0u P L .len [t].toArray T cs [u] K
  exact B5z h hy hK
 ·rename_i ats k x k' y
  obtain⟨u,u',rfl,hx,hy⟩:=hx.two
  cases hx;cases hy;cases h
  have e:(if y<x then y else x)=cond (leI x y) x y:=by
   rw [O3]
   by_cases c:x<=y
   ·rw [decide_eq_true c,if_neg (by omega)];rfl
   ·rw [decide_eq_false c,if_pos (by omega)];rfl
  have:K (.int k (if y<x then y else x)):=by rw [e];exact hK _ rfl
  cases hl:ats.toArray.toList<;>exact this
 ·rename_i ats k x k' y
  obtain⟨u,u',rfl,hx,hy⟩:=hx.two
  cases hx;cases hy;cases h
  have e:(if y > x then y else x)=cond (leI y x) x y:=by
   rw [O3]
   by_cases c:y<=x
   ·rw [decide_eq_true c,if_neg (by omega)];rfl
   ·rw [decide_eq_false c,if_pos (by omega)];rfl
  have:K (.int k (if y > x then y else x)):=by rw [e];exact hK _ rfl
  cases hl:ats.toArray.toList<;>exact this
 ·rename_i ats k re im
  obtain⟨u,rfl,hy⟩:=hx.one
  have e:u=.complex k re im:=hy
  subst e;cases h
  have:K (.float k re):=hK _ rfl
  cases hl:ats.toArray.toList<;>exact this
 ·rename_i ats k re im
  obtain⟨u,rfl,hy⟩:=hx.one
  have e:u=.complex k re im:=hy
  subst e;cases h
  have:K (.float k im):=hK _ rfl
  cases hl:ats.toArray.toList<;>exact this
 ·rename_i ats re im
  obtain⟨u,u',rfl,hx,hy⟩:=hx.two
  cases hx;cases hy;cases h
  have:K (.complex .f64 re im):=hK _ rfl
  cases hl:ats.toArray.toList<;>exact this
 ·cases h
end
theorem B1c (s:ByteArray) (a b:Nat):s.extract a b=bytes ((s.data.toList.drop a).take (Nat.sub b a)):=by
 apply ByteArray.ext
 apply Array.ext'
 simp [bytes,ByteArray.data_extract]
def B7u (x:EB):Option Nat:=match x with
 | .l (.slice _ n _)=>some n
 | .s _ _ n _=>some n
 | _=>none
theorem B50 {σ:Sg} {x:EB} {n:Nat} {u:Value} (h:B7u x=some n) (k:BR σ x u):∃ a cap,u=.slice a n cap:=by
 unfold B7u at h
 split at h
 ·cases h;cases k;exact⟨_,_,rfl⟩
 ·cases h;obtain⟨q,a,cp,_,_,rfl⟩:=k;exact⟨_,_,rfl⟩
 ·cases h
noncomputable def B7v (F:Tr EV) (x:EB) (esz n:Nat) (lo hi mx:Option Operand):Option EV:=match mx with
 | none=>match A5g F 0 lo,A5g F n hi with
  | some l,some h=>(xSl x esz l h none).map .o
  | _,_=>none
 | some m=>match lo,hi with
  | some lo,some hi=>match A5g F 0 (some lo),A5g F 0 (some hi),A5g F 0 (some m) with
   | some l,some h,some m=>(xSl x esz l h (some m)).map .o
   | _,_,_=>none
  | _,_=>none
theorem A7p {F:Tr EV} {d d':Nat} {x:Operand}:A5g F d (some x)=A5g F d' (some x):=rfl
theorem B51 {σ:Sg} {F:Tr EV} {f:Fr} {K:Value->Prop} (hF:FR σ F f) {x:EB} {v:EV} {esz n cap:Nat} {a:Option Addr} {lo hi mx:Option Operand} (h:B7v F x esz n lo hi mx=some v) (hx:BR σ x (.slice a n cap)) (hK:∀ u,VR σ v u->K u):(match (generalizing:=false) mx with
  | none=>G8 a cap esz (E6 f 0 lo) (E6 f n hi) (some cap) K
  | some m=>match (generalizing:=false) lo,hi with
   | some l,some h=>G8 a cap esz (E6 f 0 (some l)) (E6 f n (some h)) (E6 f cap (some m)) K
   | _,_=>False:Prop):=by
 unfold B7v at h
 cases mx with
 | none=>
  simp only at h ⊢
  split at h
  ·rename_i l m hl hh
   rw [T0 hF hl,T0 hF hh]
   rw [Option.map_eq_some_iff] at h
   obtain⟨y,h1,rfl⟩:=h
   exact B1a h1 hx hK
  ·cases h
 | some m=>
  cases lo with
  | none=>cases h
  | some lo=>
   cases hi with
   | none=>cases h
   | some hi=>
    simp only at h ⊢
    split at h
    ·rename_i l m' k hl hh hm
     rw [A7p (d':=n)] at hh
     rw [A7p (d':=cap)] at hm
     rw [T0 hF hl,T0 hF hh,T0 hF hm]
     rw [Option.map_eq_some_iff] at h
     obtain⟨y,h1,rfl⟩:=h
     exact B1a h1 hx hK
    ·cases h
noncomputable def B7w (P:Program) (t:Nat) (xs:List EB) (n:Int):Option EV:=match P.underlying t with
 | some (.array len e)=>match P.info? e with
  | some i=>cond (P.plainKey e&&Nat.beq i.size 1&&leI 0 n&&not (leI len n)) (match xs[n.toNat]? with
   | some x=>some (.o x)
   | none=>none) none
  | none=>none
 | _=>none
theorem B52 {P:Program} {t:Nat} {xs:List EB} {n:Int} {v:EV} {σ:Sg} {u:Value} {k:IntKind} {K:Value->Prop} (h:B7w P t xs n=some v) (hx:VR σ (.a xs) u) (hK:∀ u,VR σ v u->K u):Pure P (Instr.index t u (.int k n)) K:=by
 unfold B7w at h
 split at h
 ·rename_i len e hu
  split at h
  ·rename_i i hi
   obtain⟨h1,h2⟩:=B9W h
   simp only [Bool.and_eq_true,Bool.not_eq_true'] at h1
   obtain⟨⟨⟨b1,b2⟩,b3⟩,b4⟩:=h1
   split at h2
   ·rename_i x hxn
    cases h2
    obtain⟨cs,hc,rfl⟩:=hx
    obtain⟨c,hcn,hcx⟩:=hc.get hxn
    have hs:=Nat.eq_of_beq_eq_true b2
    have h0:=J8 b3
    have h4:¬ (len:Int)<=n:=by rw [O3] at b4;exact of_decide_eq_false b4
    refine⟨c,fun w=>?_,hK c hcx⟩
    have hp:=run_part_plain (w:=w) b1 (xs:=cs.toArray) (off:=n.toNat) (v:=c) (by simpa using hcn)
    unfold Instr.index
    simp only [Sem.run_bind,asIntOf,Sem.run_pure,Result.andThen_ok,run_underlying hu]
    rw [if_pos ⟨h0,by omega⟩]
    simp only [Sem.run_bind,sizeOf,typeInfo,run_program,hi,Sem.run_pure,Result.andThen_ok,hs,Nat.mul_one]
    exact hp
   ·cases h2
  ·cases h
 ·cases h
noncomputable def B53 (P:Program) (L:Lay) (Q:Eqs P) (T:Nat) (F:Tr EV) (c:Operand) (x:Operand) (y:Operand):Option EV:=match xEv F c with
  | some (.o (.l (.bool b)))=>Bool.rec (xEv F y) (xEv F x) b
  | _=>none
noncomputable def B3X (P:Program) (L:Lay) (Q:Eqs P) (T:Nat) (F:Tr EV) (op:BinOp) (t:Nat) (x:Operand) (y:Operand):Option EV:=match xEv F x with
  | some u=>match xEv F y with
   | some v=>B7r P Q (L.ty t).isBool op t x y u v
   | none=>none
  | none=>none
noncomputable def B54 (P:Program) (L:Lay) (Q:Eqs P) (T:Nat) (F:Tr EV) (op:UnOp) (x:Operand):Option EV:=match op,xEv F x with
  | .not,some (.o (.l (.bool b)))=>some (lit (.bool (not b)))
  | .neg,some (.o (.l (.int k n)))=>some (lit (.int k (wr k (Int.sub 0 n))))
  | _,_=>none
noncomputable def A81 (P:Program) (L:Lay) (Q:Eqs P) (T:Nat) (F:Tr EV) (s:Nat) (d:Nat) (x:Operand):Option EV:=match L.ty s,L.ty d,xEv F x with
  | .int _,.int k',some (.o (.l (.int _ n)))=>some (lit (.int k' (wr k' n)))
  | .str,.str,some (.o (.l (.string s)))=>some (lit (.string s))
  | _,_,_=>none
noncomputable def A5j (P:Program) (L:Lay) (Q:Eqs P) (T:Nat) (F:Tr EV) (t:Nat) (x:Operand) (i:Nat):Option EV:=match L.ty t,xEv F x with
  | .struct fs _,some (.o (.p N o))=>match fs[i]? with
   | some (off,size,_)=>cond (Nat.beq size 0) none (some (.o (.p N (Nat.add o off))))
   | none=>none
  | _,_=>none
noncomputable def B3Y (P:Program) (L:Lay) (Q:Eqs P) (T:Nat) (F:Tr EV) (t:Nat) (x:Operand) (i:Nat):Option EV:=match L.ty t,xEv F x with
  | .struct fs _,some (.a xs)=>match fs[i]? with
   | some (off,size,g)=>cond g (some (.a ((xs.drop off).take size))) (match xs[off]? with
    | some x=>some (.o x)
    | none=>none)
   | none=>none
  | _,_=>none
noncomputable def B3Z (P:Program) (L:Lay) (Q:Eqs P) (T:Nat) (F:Tr EV) (t:Nat) (ps:Array (Nat × Operand)):Option EV:=match xPs F ps.toList with
  | some l=>match L.ty t with
   | .struct fs z=>(A7o fs l (z.map .l)).map .a
   | .array _ _ esz z=>(A3J esz l (z.map .l)).map .a
   | _=>none
  | none=>none
noncomputable def B3a (P:Program) (L:Lay) (Q:Eqs P) (T:Nat) (F:Tr EV) (t:Nat) (x:Operand) (i:Operand):Option EV:=match L.ty t,xEv F x,xEv F i with
  | .str,some (.o (.l (.string s))),some (.o (.l (.int _ n)))=>cond (leI 0 n) (match s.data.toList[n.toNat]? with
   | some c=>some (lit (.int .u8 (Int.ofNat c.toNat)))
   | none=>none) none
  | _,some (.a xs),some (.o (.l (.int _ n)))=>B7w P t xs n
  | _,_,_=>none
noncomputable def A5k (P:Program) (L:Lay) (Q:Eqs P) (T:Nat) (F:Tr EV) (t:Nat) (x:Operand) (i:Operand):Option EV:=match L.ty t,xEv F x,xEv F i with
  | .slice _ esz,some (.o (.s N o len (.k _))),some (.o (.l (.int _ n)))=>cond (leI 0 n&&not (leI len n)) (some (.o (.p N (Nat.add o (Nat.mul n.toNat esz))))) none
  | .slice _ esz,some (.o (.s N o len (.j _ _))),some (.o (.l (.int _ n)))=>cond (leI 0 n&&not (leI len n)) (some (.o (.p N (Nat.add o (Nat.mul n.toNat esz))))) none
  | .array len _ esz _,some (.o (.p N o)),some (.o (.l (.int _ n)))=>cond (leI 0 n&&not (leI len n)) (some (.o (.p N (Nat.add o (Nat.mul n.toNat esz))))) none
  | _,_,_=>none
noncomputable def B3b (P:Program) (L:Lay) (Q:Eqs P) (T:Nat) (F:Tr EV) (t:Nat) (x:Operand) (lo:Option Operand) (hi:Option Operand) (mx:Option Operand):Option EV:=match L.ty t,xEv F x with
  | .str,some (.o (.l (.string s)))=>match mx,A5g F 0 lo,A5g F s.data.toList.length hi with
   | none,some l,some h=>cond (leI 0 l&&leI l h&&leI h s.data.toList.length) (some (lit (.string (bytes ((s.data.toList.drop l.toNat).take (Nat.sub h.toNat l.toNat)))))) none
   | _,_,_=>none
  | .slice _ esz,some (.o x)=>match B7u x with
   | some n=>B7v F x esz n lo hi mx
   | none=>none
  | .array n _ esz _,some (.o (.p N o))=>match mx,A5g F 0 lo,A5g F n hi with
   | none,some l,some h=>(xSl (.s N o n (.k n)) esz l h none).map .o
   | _,_,_=>none
  | _,_=>none
noncomputable def A82 (P:Program) (L:Lay) (Q:Eqs P) (T:Nat) (F:Tr EV) (x:Operand) (i:Nat):Option EV:=match xEv F x with
  | some (.t ys)=>match ys[i]? with
   | some (true,xs)=>some (.a xs)
   | some (false,[x])=>some (.o x)
   | _=>none
  | _=>none
noncomputable def A6d (P:Program) (L:Lay) (Q:Eqs P) (T:Nat) (F:Tr EV) (fn:Fn) (fs:Array Operand) (cs:Array Operand):Option EV:=match fn,fs.toList with
  | .func g,[]=>match B7t F cs.toList with
   | some l=>some (.o (.f g l))
   | none=>none
  | _,_=>none
noncomputable def A6e (P:Program) (L:Lay) (Q:Eqs P) (T:Nat) (F:Tr EV) (x:Operand):Option EV:=match xEv F x with
  | some (.o (.p N o))=>some (.o (.p N o))
  | some (.o (.f g cs))=>some (.o (.f g cs))
  | _=>none
noncomputable def B55 (P:Program) (L:Lay) (Q:Eqs P) (T:Nat) (F:Tr EV) (c:Go.Call):Option EV:=match c.callee with
  | .builtin b=>match B6V F c.args.toList with
   | some xs=>A2Y L b c.argTypes.toList xs
   | none=>none
  | _=>none
noncomputable def xP (P:Program) (L:Lay) (Q:Eqs P) (T:Nat) (op:Op) (F:Tr EV):Option EV:=
 match op with
 | .move x=>xEv F x
 | .assign x=>xEv F x
 | .pick c x y=>B53 P L Q T F c x y
 | .binOp op t x y _=>B3X P L Q T F op t x y
 | .unOp op _ x=>B54 P L Q T F op x
 | .convert s d x=>A81 P L Q T F s d x
 | .fieldAddr t x i=>A5j P L Q T F t x i
 | .field t x i=>B3Y P L Q T F t x i
 | .build t ps=>B3Z P L Q T F t ps
 | .index t x i=>B3a P L Q T F t x i
 | .indexAddr t x i=>A5k P L Q T F t x i
 | .slice t x lo hi mx=>B3b P L Q T F t x lo hi mx
 | .extract x i=>A82 P L Q T F x i
 | .makeFunc fn fs cs=>A6d P L Q T F fn fs cs
 | .nilCheck x=>A6e P L Q T F x
 | .call c=>B55 P L Q T F c
 | _=>none
section
variable {P:Program} {L:Lay} {Q:Eqs P} {σ:Sg} {F:Tr EV} {f:Fr} {T:Nat} {K:Value->Prop}
theorem B7O (hF:FR σ F f) {op:Op} {v:EV} (h:xP P L Q T op F=some v) (hK:∀ u,VR σ v u->K u):pOp P L T op f K:=by
 cases op
 case move x=>show P1 (ev f x) K;rw [G6];exact hK _ (B9 hF h)
 case assign x=>show P1 (ev f x) K;rw [G6];exact hK _ (B9 hF h)
 case pick c x y=>
  replace h:(match xEv F c with
   | some (.o (.l (.bool b)))=>(Bool.rec (xEv F y) (xEv F x) b:Option EV)
   | _=>none)=some v:=h
  split at h
  ·rename_i b hb
   have e:ev f c=.bool b:=B9 hF hb
   show (match ev f c with
    | .bool b=>Bool.rec (motive:=fun _=>Prop) (P1 (ev f y) K) (P1 (ev f x) K) b
    | _=>False)
   rw [e,G6,G6]
   cases b
   ·exact hK _ (B9 hF h)
   ·exact hK _ (B9 hF h)
  ·cases h
 case binOp op t x y yt=>
  replace h:(match xEv F x with
   | some u=>match xEv F y with
    | some v=>B7r P Q (L.ty t).isBool op t x y u v
    | none=>none
   | none=>none)=some v:=h
  split at h
  ·rename_i u hu
   split at h
   ·rename_i u' hu'
    exact B5w h (B9 hF hu) (B9 hF hu') hK
   ·cases h
  ·cases h
 case unOp op t x=>
  replace h:(match (generalizing:=false) op,xEv F x with
   | .not,some (.o (.l (.bool b)))=>some (lit (.bool (not b)))
   | .neg,some (.o (.l (.int k n)))=>some (lit (.int k (wr k (Int.sub 0 n))))
   | _,_=>none)=some v:=h
  split at h
  ·rename_i b hb
   have e:ev f x=.bool b:=B9 hF hb
   cases h
   show vUn P .not (ev f x) K
   rw [e]
   exact hK _ rfl
  ·rename_i k n hb
   have e:ev f x=.int k n:=B9 hF hb
   cases h
   show vUn P .neg (ev f x) K
   rw [e]
   rw [A6a] at hK
   exact hK _ rfl
  ·cases h
 case convert s d x=>
  replace h:(match L.ty s,L.ty d,xEv F x with
   | .int _,.int k',some (.o (.l (.int _ n)))=>some (lit (.int k' (wr k' n)))
   | .str,.str,some (.o (.l (.string s)))=>some (lit (.string s))
   | _,_,_=>none)=some v:=h
  split at h
  ·rename_i k k' k2 n e1 e2 hb
   have e:ev f x=.int k2 n:=B9 hF hb
   cases h
   show (match L.ty s,L.ty d,ev f x with
    | .int _,.int k',.int _ n=>K (.int k' (k'.wrap n))
    | .str,.str,.string s=>K (.string s)
    | _,_,x=>Pure P (convert s d x) K)
   rw [e1,e2,e]
   rw [A6a] at hK
   exact hK _ rfl
  ·rename_i s' e1 e2 hb
   have e:ev f x=.string s':=B9 hF hb
   cases h
   show (match L.ty s,L.ty d,ev f x with
    | .int _,.int k',.int _ n=>K (.int k' (k'.wrap n))
    | .str,.str,.string s=>K (.string s)
    | _,_,x=>Pure P (convert s d x) K)
   rw [e1,e2,e]
   exact hK _ rfl
  ·cases h
 case fieldAddr t x i=>
  replace h:(match L.ty t,xEv F x with
   | .struct fs _,some (.o (.p N o))=>match fs[i]? with
    | some (off,size,_)=>cond (Nat.beq size 0) none (some (EV.o (.p N (Nat.add o off))))
    | none=>none
   | _,_=>none)=some v:=h
  split at h
  ·rename_i fs z N o e1 hb
   obtain⟨q,hq,e⟩:=B9 hF hb
   split at h
   ·rename_i off size g hf
    show (match L.ty t,ev f x with
     | .struct fs _,.pointer (some a)=>match fs[i]? with
      | some (off,size,_)=>cond (Nat.beq size 0) False (B6R a off K)
      | none=>False
     | _,_=>False)
    rw [e1,e]
    simp only
    rw [hf]
    simp only
    cases hs:Nat.beq size 0 with
    | true=>rw [hs] at h;cases h
    | false=>
     rw [hs] at h
     cases h
     show B6R _ off K
     rw [A9P,Addr.add_lit]
     exact hK _ ⟨q,hq,by rw [show (Nat.add o off)=o+off from rfl,Nat.add_assoc]⟩
   ·cases h
  ·cases h
 case field t x i=>
  replace h:(match L.ty t,xEv F x with
   | .struct fs _,some (.a xs)=>match fs[i]? with
    | some (off,size,g)=>cond g (some (EV.a ((xs.drop off).take size))) (match xs[off]? with
     | some x=>some (.o x)
     | none=>none)
    | none=>none
   | _,_=>none)=some v:=h
  split at h
  ·rename_i fs z xs e1 hb
   obtain⟨cs,hcs,e⟩:=B9 hF hb
   split at h
   ·rename_i off size g hf
    show (match L.ty t,ev f x with
     | .struct fs _,.agg cs=>match fs[i]? with
      | some (off,size,g)=>cond g (K (.agg (cs.extract off (off+size)))) (match cs[off]? with
       | some v=>P1 v K
       | none=>False)
      | none=>False
     | _,_=>False)
    rw [e1,e]
    simp only
    rw [hf]
    simp only
    cases g with
    | true=>
     cases h
     refine hK _ ⟨(cs.drop off).take size,(hcs.drop off).take size,?_⟩
     congr 1
     apply Array.ext'
     simp
    | false=>
     replace h:(match xs[off]? with
      | some x=>some (EV.o x)
      | none=>none)=some v:=h
     split at h
     ·rename_i y hy
      cases h
      obtain⟨u,hu,hr⟩:=hcs.get hy
      rw [show cs.toArray[off]?=some u from by rw [List.getElem?_toArray];exact hu]
      show P1 u K
      rw [G6]
      exact hK _ hr
     ·cases h
   ·cases h
  ·cases h
 case build t ps=>
  replace h:(match xPs F ps.toList with
   | some l=>match L.ty t with
    | .struct fs z=>(A7o fs l (z.map .l)).map EV.a
    | .array _ _ esz z=>(A3J esz l (z.map .l)).map .a
    | _=>none
   | none=>none)=some v:=h
  split at h
  ·rename_i l hl
   have hp:=B1Z hF hl
   show (match L.ty t with
    | .struct fs z=>B4H f ps.toList fun l=>match A4X fs z l with
     | some cs=>K (.agg cs.toArray)
     | none=>False
    | .array _ _ esz z=>B4H f ps.toList fun l=>match X2 esz z l with
     | some cs=>K (.agg cs.toArray)
     | none=>False
    | _=>False)
   split at h
   ·rename_i fs z e1
    rw [Option.map_eq_some_iff] at h
    obtain⟨ys,h3,rfl⟩:=h
    rw [A0Y]
    obtain⟨ds,h1,h2⟩:=A5h h3 hp (V9 σ z)
    rw [h1]
    exact hK _ ⟨ds,h2,rfl⟩
   ·rename_i n e esz z e1
    rw [Option.map_eq_some_iff] at h
    obtain⟨ys,h3,rfl⟩:=h
    rw [A0Y]
    obtain⟨ds,h1,h2⟩:=A2X h3 hp (V9 σ z)
    rw [h1]
    exact hK _ ⟨ds,h2,rfl⟩
   ·cases h
  ·cases h
 case index t x i=>
  replace h:(match L.ty t,xEv F x,xEv F i with
   | .str,some (.o (.l (.string s))),some (.o (.l (.int _ n)))=>cond (leI 0 n) (match s.data.toList[n.toNat]? with
    | some c=>some (lit (.int .u8 (Int.ofNat c.toNat)))
    | none=>none) none
   | _,some (.a xs),some (.o (.l (.int _ n)))=>B7w P t xs n
   | _,_,_=>none)=some v:=h
  split at h
  ·rename_i s k n e1 hb hn
   have e2:ev f x=.string s:=B9 hF hb
   have e3:ev f i=.int k n:=B9 hF hn
   obtain⟨h0,h⟩:=B9W h
   have h0:=J8 h0
   split at h
   ·rename_i c hc
    cases h
    show (match L.ty t,ev f x,ev f i with
     | .str,.string s,.int _ n=>(0<=n/\n<s.size)/\K (.int .u8 ((s.data.toList.getD n.toNat 0).toNat:Int))
     | _,x,i=>Pure P (Instr.index t x i) K)
    rw [e1,e2,e3]
    simp only
    have hlt:n.toNat<s.data.toList.length:=by
     rcases Nat.lt_or_ge n.toNat s.data.toList.length with h | h
     ·exact h
     ·rw [List.getElem?_eq_none h] at hc;cases hc
    refine⟨⟨h0,?_⟩,?_⟩
    ·show n<(s.data.toList.length:Int)
     omega
    ·rw [List.getD_eq_getElem?_getD,hc]
     exact hK _ rfl
   ·cases h
  ·rename_i xs k n hb hn
   have e2:=B9 hF hb
   have e3:ev f i=.int k n:=B9 hF hn
   obtain⟨cs,_,e4⟩:=e2
   have:=B52 (k:=k) h (B9 hF hb) hK
   show (match L.ty t,ev f x,ev f i with
    | .str,.string s,.int _ n=>(0<=n/\n<s.size)/\K (.int .u8 ((s.data.toList.getD n.toNat 0).toNat:Int))
    | _,x,i=>Pure P (Instr.index t x i) K)
   rw [e4] at this ⊢
   rw [e3]
   cases L.ty t<;>exact this
  ·cases h
 case indexAddr t x i=>
  have key:∀ {N o len esz:Nat} {n:Int} {a:Addr} {q:Pl},σ N=some q->a=⟨q.b,q.o+o,none⟩->cond (leI 0 n&&not (leI len n)) (some (EV.o (.p N (Nat.add o (Nat.mul n.toNat esz))))) none=some v->(0<=n/\n<len)/\K (.pointer (some (a.add (n.toNat*esz)))):=fun hq ha h=>by
   obtain⟨h0,h⟩:=B9W h
   rw [Bool.and_eq_true,Bool.not_eq_true',O3,O3,decide_eq_true_iff,decide_eq_false_iff_not] at h0
   cases h
   subst ha
   refine⟨⟨h0.1,by omega⟩,?_⟩
   rw [Addr.add_lit]
   refine hK _ ⟨_,hq,?_⟩
   rw [Nat.add_assoc]
   rfl
  replace h:(match L.ty t,xEv F x,xEv F i with
   | .slice _ esz,some (.o (.s N o len (.k _))),some (.o (.l (.int _ n)))=>cond (leI 0 n&&not (leI len n)) (some (EV.o (.p N (Nat.add o (Nat.mul n.toNat esz))))) none
   | .slice _ esz,some (.o (.s N o len (.j _ _))),some (.o (.l (.int _ n)))=>cond (leI 0 n&&not (leI len n)) (some (.o (.p N (Nat.add o (Nat.mul n.toNat esz))))) none
   | .array len _ esz _,some (.o (.p N o)),some (.o (.l (.int _ n)))=>cond (leI 0 n&&not (leI len n)) (some (.o (.p N (Nat.add o (Nat.mul n.toNat esz))))) none
   | _,_,_=>none)=some v:=h
  show (match L.ty t,ev f x,ev f i with
   | .slice _ esz,.slice (some a) len _,.int _ n=>(0<=n/\n<len)/\K (.pointer (some (a.add (n.toNat*esz))))
   | .array len _ esz _,.pointer (some a),.int _ n=>(0<=n/\n<len)/\K (.pointer (some (a.add (n.toNat*esz))))
   | _,_,_=>False)
  split at h
  ·rename_i e esz N o len c k n e1 hb hn
   have e3:ev f i=.int k n:=B9 hF hn
   obtain⟨q,a,cp,hq,hc,e2⟩:=B9 hF hb
   rw [e1,e2,e3]
   exact key hq hc.1 h
  ·rename_i e esz N o len c c' k n e1 hb hn
   have e3:ev f i=.int k n:=B9 hF hn
   obtain⟨q,a,cp,hq,hc,e2⟩:=B9 hF hb
   rw [e1,e2,e3]
   exact key hq hc.1 h
  ·rename_i len e esz z N o k n e1 hb hn
   have e3:ev f i=.int k n:=B9 hF hn
   obtain⟨q,hq,e2⟩:=B9 hF hb
   rw [e1,e2,e3]
   exact key hq rfl h
  ·cases h
 case slice t x lo hi mx=>
  replace h:(match (generalizing:=false) L.ty t,xEv F x with
   | .str,some (.o (.l (.string s)))=>match (generalizing:=false) mx,A5g F 0 lo,A5g F s.data.toList.length hi with
    | none,some l,some h=>cond (leI 0 l&&leI l h&&leI h s.data.toList.length) (some (lit (.string (bytes ((s.data.toList.drop l.toNat).take (Nat.sub h.toNat l.toNat)))))) none
    | _,_,_=>none
   | .slice _ esz,some (.o x)=>match B7u x with
    | some n=>B7v F x esz n lo hi mx
    | none=>none
   | .array n _ esz _,some (.o (.p N o))=>match (generalizing:=false) mx,A5g F 0 lo,A5g F n hi with
    | none,some l,some h=>(xSl (.s N o n (.k n)) esz l h none).map EV.o
    | _,_,_=>none
   | _,_=>none)=some v:=h
  show (match L.ty t,ev f x with
   | .str,.string s=>match (generalizing:=false) mx with
    | none=>A3P s (E6 f 0 lo) (E6 f s.size hi) K
    | some _=>False
   | .slice _ esz,.slice a len cap=>match (generalizing:=false) mx with
    | none=>G8 a cap esz (E6 f 0 lo) (E6 f len hi) (some cap) K
    | some m=>match (generalizing:=false) lo,hi with
     | some l,some h=>G8 a cap esz (E6 f 0 (some l)) (E6 f len (some h)) (E6 f cap (some m)) K
     | _,_=>False
   | .array n _ esz _,.pointer (some a)=>match (generalizing:=false) mx with
    | none=>G8 (some a) n esz (E6 f 0 lo) (E6 f n hi) (some n) K
    | some _=>False
   | _,_=>False)
  split at h
  ·rename_i s e1 hb
   have e2:ev f x=.string s:=B9 hF hb
   rw [e1,e2]
   split at h
   ·rename_i l m hl hh
    have hl:=T0 hF hl
    have hh:E6 f s.size hi=some m:=T0 hF hh
    obtain⟨h0,h⟩:=B9W h
    rw [Bool.and_eq_true,Bool.and_eq_true] at h0
    have h1:=J8 h0.1.1
    have h2:=J8 h0.1.2
    have h3:=J8 h0.2
    cases h
    show A3P s (E6 f 0 lo) (E6 f s.size hi) K
    rw [hl,hh]
    refine⟨⟨h1,h2,h3⟩,?_⟩
    rw [B1c]
    exact hK _ rfl
   ·cases h
  ·rename_i e esz y e1 hb
   have e2:BR σ y (ev f x):=B9 hF hb
   split at h
   ·rename_i n hn
    obtain⟨a,cap,e3⟩:=B50 hn e2
    rw [e1,e3]
    rw [e3] at e2
    exact B51 hF h e2 hK
   ·cases h
  ·rename_i n e esz z N o e1 hb
   obtain⟨q,hq,e2⟩:=B9 hF hb
   rw [e1,e2]
   split at h
   ·rename_i l m hl hh
    have hl:=T0 hF hl
    have hh:=T0 hF hh
    rw [Option.map_eq_some_iff] at h
    obtain⟨y,h1,rfl⟩:=h
    show G8 _ n esz (E6 f 0 lo) (E6 f n hi) (some n) K
    rw [hl,hh]
    exact B1a (cap:=n) (n:=n) h1 ⟨q,_,n,hq,⟨rfl,rfl,Nat.le_refl _⟩,rfl⟩ hK
   ·cases h
  ·cases h
 case extract x i=>
  replace h:(match xEv F x with
   | some (.t ys)=>match ys[i]? with
    | some (true,xs)=>some (EV.a xs)
    | some (false,[x])=>some (.o x)
    | _=>none
   | _=>none)=some v:=h
  split at h
  ·rename_i ys hb
   obtain⟨vs,hv,e⟩:=B9 hF hb
   show (match ev f x with
    | .tuple vs=>match vs.toList[i]? with
     | some v=>P1 v K
     | none=>False
    | _=>False)
   rw [e]
   simp only
   split at h
   ·rename_i xs hi
    cases h
    obtain⟨u,hu,cs,h1,h2⟩:=hv.get hi
    rw [hu]
    show P1 u K
    rw [G6]
    rcases h2 with ⟨_,rfl⟩ | ⟨h2,_⟩
    ·exact hK _ ⟨cs,h1,rfl⟩
    ·cases h2
   ·rename_i y hi
    cases h
    obtain⟨u,hu,cs,h1,h2⟩:=hv.get hi
    rw [hu]
    show P1 u K
    rw [G6]
    rcases h2 with ⟨h2,_⟩ | ⟨_,rfl⟩
    ·cases h2
    ·exact hK _ h1.1
   ·cases h
  ·cases h
 case makeFunc fn fs cs=>
  replace h:(match (generalizing:=false) fn,fs.toList with
   | .func g,[]=>match B7t F cs.toList with
    | some l=>some (EV.o (.f g l))
    | none=>none
   | _,_=>none)=some v:=h
  split at h
  ·rename_i g hfs
   split at h
   ·rename_i l hl
    cases h
    show A9K f fs.toList fun fs=>A9K f cs.toList fun cs=>K (.func (.func g) fs.toArray cs.toArray)
    rw [U3,U3,hfs]
    exact hK _ ⟨_,B1b hF hl,rfl⟩
   ·cases h
  ·cases h
 case nilCheck x=>
  replace h:(match xEv F x with
   | some (.o (.p N o))=>some (EV.o (.p N o))
   | some (.o (.f g cs))=>some (.o (.f g cs))
   | _=>none)=some v:=h
  show (match ev f x with
   | .pointer (some a)=>K (.pointer (some a))
   | .func (.func n) fs cs=>K (.func (.func n) fs cs)
   | _=>False)
  split at h
  ·rename_i N o hb
   have hb:=B9 hF hb
   have hb0:=hb
   obtain⟨q,hq,e⟩:=hb0
   cases h
   rw [e] at hb ⊢
   exact hK _ hb
  ·rename_i g cs hb
   have hb:=B9 hF hb
   have hb0:=hb
   obtain⟨vs,hq,e⟩:=hb0
   cases h
   rw [e] at hb ⊢
   exact hK _ hb
  ·cases h
 case call c=>
  replace h:(match c.callee with
   | .builtin b=>match B6V F c.args.toList with
    | some xs=>A2Y L b c.argTypes.toList xs
    | none=>none
   | _=>none)=some v:=h
  show (match c.callee with
   | .builtin b=>cond (L6 b) (A9K f c.args.toList fun xs=>A0u P L b c.argTypes T (c.args.map fun | .const _=>true | _=>false) xs K) False
   | _=>False)
  split at h
  ·rename_i b hb
   rw [U3]
   split at h
   ·rename_i xs hx
    exact A5i h (A2Z hF hx) hK
   ·cases h
  ·cases h
 all_goals cases h
end
end Go.Vx
end
section
namespace Go.Vx
open Go Go.Vc Go.RowKit
def bit (i:Nat):Nat:=Nat.pow 2 i
def A4C (m i:Nat):Bool:=Nat.beq (Nat.land (Nat.shiftRight m i) 1) 1
def A83 (a b:Nat):Bool:=Nat.beq (Nat.land a b) a
theorem A0q (m i:Nat):A4C m i=m.testBit i:=by
 unfold A4C Nat.testBit
 rw [Bool.eq_iff_iff,bne_iff_ne]
 show Nat.beq ((m >>> i) &&& 1) 1=true↔1 &&& (m >>> i)≠0
 rw [Nat.and_comm 1]
 have h1:(m >>> i) &&& 1=(m >>> i) % 2:=Nat.and_one_is_mod _
 rw [h1]
 have:=Nat.mod_lt (m >>> i) (show 0<2 by decide)
 exact⟨fun h=>by have:=Nat.eq_of_beq_eq_true h;omega,fun h=>by rw [show (m >>> i) % 2=1 by omega];rfl⟩
theorem O4 (i j:Nat):(bit i).testBit j=decide (i=j):=Nat.testBit_two_pow
theorem A4D (a b:Nat):A83 a b=true↔∀ i,a.testBit i=true->b.testBit i=true:=by
 unfold A83
 constructor
 ·intro h i hi
  have e:a &&& b=a:=Nat.eq_of_beq_eq_true h
  rw [<-e,Nat.testBit_and,Bool.and_eq_true] at hi
  exact hi.2
 ·intro h
  have e:a &&& b=a:=Nat.eq_of_testBit_eq fun i=>by
   rw [Nat.testBit_and]
   cases hi:a.testBit i with
   | false=>rfl
   | true=>rw [h i hi];rfl
  show Nat.beq (a &&& b) a=true
  rw [e]
  exact Nat.beq_refl _
structure RI where
 D:Nat
 B:Nat
 q:Bool
noncomputable def A84 (l:List Edge):Nat:=List.rec (motive:=fun _=>Nat) 0 (fun e _ s=>cond (Region.binds .any e) (Nat.lor (bit e.on) s) s) l
theorem Q6:∀ (l:List Edge) (j:Nat),(A84 l).testBit j=l.any fun e=>Region.binds .any e&&e.on==j
 | [],j=>Nat.zero_testBit j
 | e::l,j=>by
  show (cond (Region.binds .any e) (bit e.on ||| A84 l) (A84 l)).testBit j=(Region.binds .any e&&e.on==j||l.any _)
  cases Region.binds .any e with
  | false=>exact Q6 l j
  | true=>
   show (bit e.on ||| A84 l).testBit j=_
   rw [Nat.testBit_or,O4,Q6 l j]
   rfl
noncomputable def B6W (ops:Array Oper) (i:Nat) (oi:Oper) (l:List Oper):Nat->Nat:=List.rec (motive:=fun _=>Nat->Nat) (fun _=>0) (fun o _ ih j=>cond (Nat.beq j i||A4C (A84 o.after.toList) i||oi.apart ops o) (ih (Nat.succ j)) (Nat.lor (bit j) (ih (Nat.succ j)))) l
theorem B1d {ops:Array Oper} {i k:Nat} {oi x:Oper} {l:List Oper}:B6W ops i oi (x::l) k=cond (Nat.beq k i||A4C (A84 x.after.toList) i||oi.apart ops x) (B6W ops i oi l (k+1)) (bit k ||| B6W ops i oi l (k+1)):=rfl
theorem B1e {ops:Array Oper} {i:Nat} {oi:Oper} (l:List Oper):∀ (k j:Nat) (o:Oper),l[j]?=some o->(k+j=i\/(A84 o.after.toList).testBit i=true\/oi.apart ops o=true)\/(B6W ops i oi l k).testBit (k+j)=true:=by
 induction l with
 | nil=>intro k j o h;cases h
 | cons x l ih=>
  intro k j o h
  rw [B1d]
  cases j with
  | zero=>
   cases h
   cases hc:(Nat.beq k i||A4C (A84 x.after.toList) i||oi.apart ops x) with
   | true=>
    left
    rw [Bool.or_eq_true,Bool.or_eq_true,A0q] at hc
    rcases hc with (hc | hc) | hc
    ·exact .inl (Nat.eq_of_beq_eq_true hc)
    ·exact .inr (.inl hc)
    ·exact .inr (.inr hc)
   | false=>
    right
    rw [cond_false,Nat.testBit_or,O4,decide_eq_true (by omega)]
    rfl
  | succ j=>
   have:=ih (k+1) j o (by simpa using h)
   rw [show k+1+j=k+(j+1) by omega] at this
   rcases this with h1 | h1
   ·exact .inl h1
   ·right
    cases (Nat.beq k i||A4C (A84 x.after.toList) i||oi.apart ops x) with
    | true=>rw [cond_true];exact h1
    | false=>rw [cond_false,Nat.testBit_or,h1,Bool.or_true]
noncomputable def Y0 (ops:Array Oper) (all:List Oper) (nq:List Bool) (l:List Oper):Nat->List RI:=List.rec (motive:=fun _=>Nat->List RI) (fun _=>[]) (fun o _ ih i=>⟨A84 o.after.toList,B6W ops i o all 0,not (nq.getD i true)⟩::ih (Nat.succ i)) l
theorem W0 {ops:Array Oper} {all:List Oper} {nq:List Bool}:∀ (l:List Oper) (k i:Nat),(Y0 ops all nq l k)[i]?=(l[i]?).map fun o=>⟨A84 o.after.toList,B6W ops (k+i) o all 0,not (nq.getD (k+i) true)⟩
 | [],_,_=>rfl
 | o::l,k,0=>rfl
 | o::l,k,i+1=>by
  show (Y0 ops all nq l (k+1))[i]?=_
  rw [W0 l (k+1) i,show k+1+i=k+(i+1) by omega]
  rfl
noncomputable def O5 (l:List RI) (m:Nat):Nat->Nat:=List.rec (motive:=fun _=>Nat->Nat) (fun _=>0) (fun r _ ih i=>cond (not (A4C m i)&&A83 r.D m) (Nat.lor (bit i) (ih (Nat.succ i))) (ih (Nat.succ i))) l
theorem A2a {m:Nat}:∀ (l:List RI) (k j:Nat),(O5 l m k).testBit j=true↔∃ i r,l[i]?=some r/\j=k+i/\m.testBit j=false/\A83 r.D m=true
 | [],k,j=>by
  show (0:Nat).testBit j=true↔_
  rw [Nat.zero_testBit]
  exact⟨fun h=>(by cases h),fun ⟨i,r,h,_⟩=>(by cases h)⟩
 | r::l,k,j=>by
  have e:O5 (r::l) m k=cond (not (A4C m k)&&A83 r.D m) (bit k ||| O5 l m (k+1)) (O5 l m (k+1)):=rfl
  have ih:=A2a (m:=m) l (k+1) j
  rw [e]
  constructor
  ·intro h
   cases hc:(not (A4C m k)&&A83 r.D m) with
   | false=>
    rw [hc] at h
    obtain⟨i,r',h1,h2,h3⟩:=ih.1 h
    exact⟨i+1,r',h1,by omega,h3⟩
   | true=>
    rw [hc] at h
    have h:(bit k ||| O5 l m (k+1)).testBit j=true:=h
    rw [Nat.testBit_or,Bool.or_eq_true,O4,decide_eq_true_iff] at h
    rcases h with h | h
    ·subst h
     rw [Bool.and_eq_true,Bool.not_eq_true',A0q] at hc
     exact⟨0,r,rfl,rfl,hc.1,hc.2⟩
    ·obtain⟨i,r',h1,h2,h3⟩:=ih.1 h
     exact⟨i+1,r',h1,by omega,h3⟩
  ·rintro⟨i,r',h1,h2,h3,h4⟩
   cases i with
   | zero=>
    cases h1
    obtain rfl:j=k:=h2
    rw [show (not (A4C m j)&&A83 r.D m)=true from by rw [A0q,h3,h4];rfl]
    show (bit j ||| _).testBit j=true
    rw [Nat.testBit_or,O4,decide_eq_true rfl]
    rfl
   | succ i=>
    have:=ih.2 ⟨i,r',h1,by omega,h3,h4⟩
    cases (not (A4C m k)&&A83 r.D m) with
    | false=>exact this
    | true=>show (bit k ||| _).testBit j=true;rw [Nat.testBit_or,this,Bool.or_true]
noncomputable def okM (l:List RI) (full:Nat) (s:Sched):Nat->Nat->Nat->Bool:=
 Sched.rec (motive:=fun _=>Nat->Nat->Nat->Bool) (fun _ _ r=>Nat.beq r 0)
  (fun i fuel m r=>Nat.rec (motive:=fun _=>Bool) false (fun _ _=>match l[i]? with
   | some x=>A4C r i&&Nat.beq r (bit i)&&Nat.beq (Nat.lor x.D (bit i)) full&&Nat.beq (O5 l (Nat.lor m (bit i)) 0) 0
   | none=>false) fuel)
  (fun i s ih fuel m r=>Nat.rec (motive:=fun _=>Bool) false (fun fuel' _=>match l[i]? with
   | some x=>A4C r i&&A83 x.B m&&not s.isStop&&ih fuel' (Nat.lor m (bit i)) (O5 l (Nat.lor m (bit i)) 0)
   | none=>false) fuel)
  (fun i s t ihs iht fuel m r=>Nat.rec (motive:=fun _=>Bool) false (fun fuel' _=>A4C r i&&not s.isStop&&t.isAlt&&ihs fuel' (Nat.lor m (bit i)) (O5 l (Nat.lor m (bit i)) 0)&&iht (Nat.succ fuel') m (Nat.xor r (bit i))) fuel)
  (fun _ _ r=>Nat.beq r 0) s
section
variable {ops:List Oper} {nq:List Bool}
structure LM (n:Nat) (listed:Array Bool) (m:Nat):Prop where
 size:listed.size=n
 bits:∀ i,listed.getD i false=m.testBit i
theorem LM.tr {n:Nat} {listed:Array Bool} {m:Nat} (h:LM n listed m) {i:Nat} (hi:i<n):listed.getD i true=m.testBit i:=by
 rw [<-h.bits]
 have:i<listed.size:=by rw [h.size];exact hi
 simp [Array.getD,this]
theorem LM.add {n:Nat} {listed:Array Bool} {m:Nat} (h:LM n listed m) {i:Nat} (hi:i<n):LM n (listed.setIfInBounds i true) (Nat.lor m (bit i)):=
 ⟨by simp [h.size],fun j=>by
  show _=(m ||| bit i).testBit j
  rw [Nat.testBit_or,O4,<-h.bits]
  have hs:i<listed.size:=by rw [h.size];exact hi
  by_cases e:i=j
  ·subst e
   simp [Array.getD,hs]
  ·rw [decide_eq_false e,Bool.or_false]
   simp only [Array.getD,Array.size_setIfInBounds]
   split
   ·rename_i hj
    exact Array.getElem_setIfInBounds_ne (by omega) e
   ·rfl⟩
theorem A5l {listed:Array Bool} {m:Nat} (h:LM ops.length listed m) (j:Nat):j∈Region.ready .any ops.toArray listed↔(O5 (Y0 ops.toArray ops nq ops 0) m 0).testBit j=true:=by
 rw [mem_ready,A2a]
 constructor
 ·rintro⟨h1,o,h2,h3⟩
  have h2:ops[j]?=some o:=by simpa using h2
  have hj:j<ops.length:=(List.getElem?_eq_some_iff.1 h2).1
  refine⟨j,_,by rw [W0,h2];rfl,by omega,by rw [<-h.tr hj];exact h1,(A4D _ _).2 fun i hi=>?_⟩
  rw [Q6] at hi
  obtain⟨e,he,hb⟩:=List.any_eq_true.1 hi
  rw [Bool.and_eq_true,beq_iff_eq] at hb
  rw [<-h.bits,<-hb.2]
  exact h3 e (by simpa using he) hb.1
 ·rintro⟨i,r,h1,h2,h3,h4⟩
  obtain rfl:i=j:=by omega
  rw [W0,Option.map_eq_some_iff] at h1
  obtain⟨o,h5,rfl⟩:=h1
  have hj:i<ops.length:=(List.getElem?_eq_some_iff.1 h5).1
  refine⟨by rw [h.tr hj];exact h3,o,by simpa using h5,fun e he hb=>?_⟩
  rw [h.bits]
  refine (A4D _ _).1 h4 _ ?_
  rw [Q6]
  exact List.any_eq_true.2 ⟨e,by simpa using he,by rw [hb,Bool.true_and,beq_self_eq_true]⟩
theorem B7P (hfull:∀ j,j<ops.length->(bit ops.length-1).testBit j=true):∀ (s:Sched) (fuel m r:Nat) (listed:Array Bool) (rem:List Nat),okM (Y0 ops.toArray ops nq ops 0) (bit ops.length-1) s fuel m r=true->LM ops.length listed m->(∀ j,j∈rem↔r.testBit j=true)->(∀ j∈rem,j<ops.length)->
  I1 ops.toArray s fuel listed rem=true:=by
 have emp:∀ {r:Nat} {rem:List Nat},Nat.beq r 0=true->(∀ j,j∈rem↔r.testBit j=true)->rem.isEmpty=true:=fun h hr=>by
  rw [List.isEmpty_iff,List.eq_nil_iff_forall_not_mem]
  intro j hj
  rw [hr,Nat.eq_of_beq_eq_true h,Nat.zero_testBit] at hj
  cases hj
 have next:∀ {listed m},LM ops.length listed m->(∀ j,j∈Region.ready .any ops.toArray listed↔(O5 (Y0 ops.toArray ops nq ops 0) m 0).testBit j=true)/\∀ j∈Region.ready .any ops.toArray listed,j<ops.length:=fun h=>
  ⟨A5l h,fun j hj=>by
   obtain⟨_,o,h2,_⟩:=mem_ready.1 hj
   simpa using (Array.getElem?_eq_some_iff.1 h2).1⟩
 intro s
 induction s with
 | fin=>intro fuel m r listed rem h hL hr hb;exact emp h hr
 | stop=>intro fuel m r listed rem h hL hr hb;exact emp h hr
 | z i=>
  intro fuel m r listed rem h hL hr hb
  cases fuel with
  | zero=>cases h
  | succ fuel=>
   have h:(match (Y0 ops.toArray ops nq ops 0)[i]? with
    | some x=>A4C r i&&Nat.beq r (bit i)&&Nat.beq (Nat.lor x.D (bit i)) (bit ops.length-1)&&Nat.beq (O5 (Y0 ops.toArray ops nq ops 0) (Nat.lor m (bit i)) 0) 0
    | none=>false)=true:=h
   split at h
   ·rename_i x hx
    rw [W0,Option.map_eq_some_iff] at hx
    obtain⟨o,ho,rfl⟩:=hx
    simp only [Bool.and_eq_true] at h
    obtain⟨⟨⟨h1,h2⟩,h3⟩,h4⟩:=h
    rw [A0q] at h1
    have h2:=Nat.eq_of_beq_eq_true h2
    have h3:A84 o.after.toList ||| bit i=bit ops.length-1:=Nat.eq_of_beq_eq_true h3
    have hi:=hb i ((hr i).2 h1)
    simp only [I1,Bool.and_eq_true]
    refine⟨⟨⟨?_,by simpa using (hr i).2 h1⟩,?_⟩,emp h4 (next (hL.add hi)).1⟩
    ·rw [List.all_eq_true]
     intro j hj
     rw [hr,h2,O4,decide_eq_true_iff] at hj
     rw [hj]
     exact Nat.beq_refl _
    ·unfold Z9
     rw [show ops.toArray[i]?=some o from by simpa using ho]
     simp only
     rw [List.all_eq_true]
     intro j hj
     have hj:j<ops.length:=by simpa using hj
     have:=hfull j hj
     rw [<-h3,Nat.testBit_or,O4,Q6,Bool.or_eq_true,decide_eq_true_iff] at this
     rw [Bool.or_eq_true]
     rcases this with h5 | h5
     ·right
      obtain⟨e,he,hb'⟩:=List.any_eq_true.1 h5
      rw [Bool.and_eq_true,beq_iff_eq] at hb'
      refine List.any_eq_true.2 ⟨e,he,?_⟩
      rw [hb'.1,hb'.2]
      exact Nat.beq_refl _
     ·left
      rw [h5]
      exact Nat.beq_refl _
   ·cases h
 | q i s ih=>
  intro fuel m r listed rem h hL hr hb
  cases fuel with
  | zero=>cases h
  | succ fuel=>
   have h:(match (Y0 ops.toArray ops nq ops 0)[i]? with
    | some x=>A4C r i&&A83 x.B m&&not s.isStop&&okM (Y0 ops.toArray ops nq ops 0) (bit ops.length-1) s fuel (Nat.lor m (bit i)) (O5 (Y0 ops.toArray ops nq ops 0) (Nat.lor m (bit i)) 0)
    | none=>false)=true:=h
   split at h
   ·rename_i x hx
    rw [W0,Option.map_eq_some_iff] at hx
    obtain⟨o,ho,rfl⟩:=hx
    simp only [Bool.and_eq_true] at h
    obtain⟨⟨⟨h1,h2⟩,h3⟩,h4⟩:=h
    rw [A0q] at h1
    have hi:=hb i ((hr i).2 h1)
    simp only [I1,Bool.and_eq_true]
    refine⟨⟨⟨by simpa using (hr i).2 h1,?_⟩,h3⟩,ih fuel _ _ _ _ h4 (hL.add hi) (next (hL.add hi)).1 (next (hL.add hi)).2⟩
    unfold Region.free
    rw [show ops.toArray[i]?=some o from by simpa using ho]
    simp only
    rw [List.all_eq_true]
    intro j hj
    have hj:j<ops.length:=by simpa using hj
    have hoj:ops[j]?=some ops[j]:=List.getElem?_eq_getElem hj
    rw [show ops.toArray[j]?=some ops[j] from by simp]
    simp only [Bool.or_eq_true]
    have:=B1e (ops:=ops.toArray) (i:=i) (oi:=o) ops 0 j _ hoj
    rw [Nat.zero_add] at this
    rcases this with (h5 | h5 | h5) | h5
    ·exact .inl (.inl (by rw [h5];exact beq_self_eq_true _))
    ·refine .inr (.inl ?_)
     rw [Q6] at h5
     obtain⟨e,he,hb'⟩:=List.any_eq_true.1 h5
     exact Array.any_eq_true'.2 ⟨e,by simpa using he,hb'⟩
    ·exact .inr (.inr h5)
    ·refine .inl (.inr ?_)
     rw [hL.tr hj]
     refine (A4D _ _).1 h2 j ?_
     rw [Nat.zero_add]
     exact h5
   ·cases h
 | n i s t ihs iht=>
  intro fuel m r listed rem h hL hr hb
  cases fuel with
  | zero=>cases h
  | succ fuel=>
   have h:(A4C r i&&not s.isStop&&t.isAlt&&okM (Y0 ops.toArray ops nq ops 0) (bit ops.length-1) s fuel (Nat.lor m (bit i)) (O5 (Y0 ops.toArray ops nq ops 0) (Nat.lor m (bit i)) 0)&&okM (Y0 ops.toArray ops nq ops 0) (bit ops.length-1) t (Nat.succ fuel) m (Nat.xor r (bit i)))=true:=h
   simp only [Bool.and_eq_true] at h
   obtain⟨⟨⟨⟨h1,h2⟩,h3⟩,h4⟩,h5⟩:=h
   rw [A0q] at h1
   have hi:=hb i ((hr i).2 h1)
   simp only [I1,Bool.and_eq_true]
   refine⟨⟨⟨⟨by simpa using (hr i).2 h1,h2⟩,h3⟩,ihs fuel _ _ _ _ h4 (hL.add hi) (next (hL.add hi)).1 (next (hL.add hi)).2⟩,iht (fuel+1) _ _ _ _ h5 hL (fun j=>?_) (fun j hj=>hb j (List.mem_filter.1 hj).1)⟩
   rw [List.mem_filter,hr]
   show _↔(r ^^^ bit i).testBit j=true
   rw [Nat.testBit_xor,O4]
   by_cases e:i=j
   ·subst e
    rw [decide_eq_true rfl,h1]
    simp
   ·rw [decide_eq_false e,Bool.xor_false,show Nat.beq j i=false from Bool.eq_false_iff.2 fun h=>e (Nat.eq_of_beq_eq_true h).symm]
    simp
noncomputable def A5m (ops:List Oper) (nq:List Bool) (s:Sched):Bool:=Region.noSelect ops.toArray&&not s.isStop&&okM (Y0 ops.toArray ops nq ops 0) (bit ops.length-1) s ops.length 0 (O5 (Y0 ops.toArray ops nq ops 0) 0 0)
theorem B1f {s:Sched} (h:A5m ops nq s=true):A1b ops.toArray s=true:=by
 unfold A5m at h
 simp only [Bool.and_eq_true] at h
 obtain⟨⟨h1,h2⟩,h3⟩:=h
 have hL:LM ops.length (Array.replicate ops.toArray.size false) 0:=⟨by simp,fun i=>by
  rw [Nat.zero_testBit]
  simp only [Array.getD]
  split
  ·simp
  ·rfl⟩
 unfold A1b
 simp only [Bool.and_eq_true]
 refine⟨⟨h1,h2⟩,?_⟩
 have hf:∀ j,j<ops.length->(bit ops.length-1).testBit j=true:=fun j hj=>by
  show (2 ^ ops.length-1).testBit j=true
  rw [Nat.testBit_two_pow_sub_one,decide_eq_true hj]
 have:=B7P hf s ops.length 0 _ _ (Region.ready .any ops.toArray (Array.replicate ops.toArray.size false)) h3 hL (A5l hL) (fun j hj=>by
  obtain⟨_,o,h2,_⟩:=mem_ready.1 hj
  simpa using (Array.getElem?_eq_some_iff.1 h2).1)
 simpa using this
end
noncomputable def B7Q (l:List RI) (m:Nat):Nat->Option Nat:=List.rec (motive:=fun _=>Nat->Option Nat) (fun _=>none) (fun r _ ih i=>cond (r.q&&not (A4C m i)&&A83 r.D m&&A83 r.B m) (some i) (ih (Nat.succ i))) l
noncomputable def readyL (l:List RI) (m:Nat):Nat->List Nat:=List.rec (motive:=fun _=>Nat->List Nat) (fun _=>[]) (fun r _ ih i=>cond (not (A4C m i)&&A83 r.D m) (i::ih (Nat.succ i)) (ih (Nat.succ i))) l
noncomputable def mkM (l:List RI) (full fuel:Nat):Nat->Sched:=Nat.rec (motive:=fun _=>Nat->Sched) (fun _=>.fin) (fun _ ih m=>match B7Q l m 0 with
 | some i=>.q i (ih (Nat.lor m (bit i)))
 | none=>match readyL l m 0 with
  | []=>.fin
  | [i]=>match l[i]? with
   | some x=>cond (Nat.beq (Nat.lor x.D (bit i)) full&&Nat.beq (Nat.lor m (bit i)) full) (.z i) (.n i (ih (Nat.lor m (bit i))) .stop)
   | none=>.fin
  | is=>List.rec (motive:=fun _=>Sched) .stop (fun i _ s=>.n i (ih (Nat.lor m (bit i))) s) is) fuel
end Go.Vx
end
namespace Go.Vx
open Go Go.Vc Go.RowKit
noncomputable def fE (x:EB) (K:EB->Bool):Bool:=match x with
 | .l (.int k n)=>fI n fun n=>K (.l (.int k n))
 | .l (.string s)=>fL s.data.toList fun l=>K (.l (.string (bytes l)))
 | .l (.bool b)=>Bool.rec (K (.l (.bool false))) (K (.l (.bool true))) b
 | .rg k lo hi=>fI lo fun lo=>fI hi fun hi=>K (.rg k lo hi)
 | .p N o=>fN o fun o=>K (.p N o)
 | .s N o n (.k c)=>fN o fun o=>fN n fun n=>fN c fun c=>K (.s N o n (.k c))
 | .s N o n (.j c b)=>fN o fun o=>fN n fun n=>fN c fun c=>fN b fun b=>K (.s N o n (.j c b))
 | .s N o n (.z c)=>fN o fun o=>fN c fun c=>K (.s N o n (.z c))
 | x=>K x
noncomputable def fV (v:EV) (K:EV->Bool):Bool:=match v with
 | .o x=>fE x fun x=>K (.o x)
 | .a xs=>fL xs fun xs=>K (.a xs)
 | .t ys=>fL ys fun ys=>K (.t ys)
theorem B8Q (x:EB) (K:EB->Bool):fE x K=K x:=by
 unfold fE
 split
 ·rw [B5r]
 ·rw [X9];rfl
 ·rename_i b;cases b<;>rfl
 ·rw [B5r,B5r]
 ·rw [V8]
 ·rw [V8,V8,V8]
 ·rw [V8,V8,V8,V8]
 ·rw [V8,V8]
 ·rfl
theorem A1J (v:EV) (K:EV->Bool):fV v K=K v:=by
 unfold fV
 split
 ·rw [B8Q]
 ·rw [X9]
 ·rw [X9]
structure Mach where
 P:Program
 L:Lay
 Q:Eqs P
 late:Nat->Nat->Nat->Bool
 prim:Nat->List EV->Hp->Option EV
abbrev Kt:=EV->Hp->Bool
noncomputable def xLd (d:TD) (xs:List EB) (o:Nat):Option EV:=match d with
 | .none=>none
 | d=>cond d.isAgg (cond (Nat.ble (Nat.add o d.size) xs.length) (some (.a ((xs.drop o).take d.size))) none) (match xs[o]? with
  | some x=>some (.o x)
  | none=>none)
noncomputable def rowOf (H:Hp) (N:Nat):Option (Nat × Nat × List EB):=match H.t.get N with
 | some (.c T sz xs)=>some (T,sz,xs)
 | _=>none
noncomputable def rowR (H:Hp) (N:Nat):Option (List EB):=match H.t.get N with
 | some (.c _ _ xs)=>some xs
 | some (.r xs)=>some xs
 | _=>none
noncomputable def A6f (M:Mach) (t:Nat) (v:EV) (H:Hp):Option EV:=match v with
 | .o (.p N o)=>match rowR H N with
  | some xs=>xLd (M.L.ty t) xs o
  | none=>none
 | _=>none
noncomputable def A7q (M:Mach) (t:Nat) (v u:EV) (H:Hp) (K:Kt):Bool:=match v with
 | .o (.p N o)=>match rowOf H N,A3I u,M.L.ty t with
  | some (T,sz,xs),some ys,d=>cond (B4c ys&&Nat.beq ys.length d.size&&Nat.ble (Nat.add o ys.length) xs.length&&not (Nat.beq d.size 0)) (fL (A7l xs o ys) fun xs=>H.t.setK N (.c T sz xs) fun t=>K (lit undef) ⟨t,H.n⟩) false
  | _,_,_=>false
 | _=>false
noncomputable def B7x (N n:Nat) (E:Ent) (H:Hp) (K:Nat->Hp->Bool):Bool:=match H.t.get N with
 | none=>H.t.setK N E fun t=>K N ⟨t,n⟩
 | some _=>false
noncomputable def B4d (nm:Option Nat) (E:Ent) (H:Hp) (K:Nat->Hp->Bool):Bool:=match nm with
 | some N=>B7x N H.n E H K
 | none=>fN (Nat.succ H.n) fun n=>B7x H.n n E H K
noncomputable def A4E (nm:Option Nat) (T sz:Nat) (xs:List EB) (H:Hp) (K:Nat->Hp->Bool):Bool:=fL xs fun xs=>B4d nm (.c T sz xs) H K
def A85 (P:Program) (T:Nat):Bool:=match P.underlying T with
 | some .string=>true
 | _=>false
def B8R (P:Program) (t e esz:Nat):Bool:=(match P.underlying t with
  | some (.slice e')=>Nat.beq e e'
  | _=>false)&&(match P.info? e with
  | some i=>Nat.beq i.size esz&&Nat.ble i.bytes 4096&&(match i.zero with
   | some z=>Nat.beq z.cells.size esz
   | none=>false)
  | none=>false)
noncomputable def B1g (P:Program) (tx:Nat) (x:EV) (esz:Nat) (H:Hp):Option (Nat × List EB):=match x with
 | .o (.l (.slice none n _))=>cond (Nat.beq n 0&&B4a P tx) (some (0,[])) none
 | .o (.l (.string s))=>cond (Nat.beq esz 1&&A85 P tx) (some (s.data.toList.length,s.data.toList.map fun c=>.l (.int .u8 (Int.ofNat c.toNat)))) none
 | .o (.s N o m c)=>cond (B4a P tx) (cond (Nat.beq m 0) (some (0,[])) (match c,rowR H N with
  | .z _,_=>none
  | _,some xs=>cond (Nat.ble (Nat.add o (Nat.mul m esz)) xs.length) (some (m,(xs.drop o).take (Nat.mul m esz))) none
  | _,none=>none)) none
 | _=>none
noncomputable def B56 (T sz e esz N o n m:Nat) (c:EC) (xs news:List EB) (H:Hp) (K:Kt):Bool:=match c with
 | .k c=>cond (Nat.ble (Nat.add n m) c)
   (cond (Nat.ble (Nat.add o (Nat.mul (Nat.add n m) esz)) xs.length) (fL (A7l xs (Nat.add o (Nat.mul n esz)) news) fun xs=>H.t.setK N (.c T sz xs) fun t=>K (.o (.s N o (Nat.add n m) (.k c))) ⟨t,H.n⟩) false)
   (cond (Nat.ble (Nat.add o (Nat.mul n esz)) xs.length) (A4E none e esz (((xs.drop o).take (Nat.mul n esz))++news) H fun N H=>K (.o (.s N 0 (Nat.add n m) (.j 0 (Nat.add n m)))) H) false)
 | .j d b=>cond (Nat.beq o (Nat.mul d esz)&&Nat.beq sz esz&&Nat.beq T e)
   (cond (Nat.ble (Nat.add o (Nat.mul (Nat.add n m) esz)) xs.length) (fL (A7l xs (Nat.add o (Nat.mul n esz)) news) fun xs=>H.t.setK N (.c T sz xs) fun t=>K (.o (.s N o (Nat.add n m) (.j d (cond (Nat.ble (Nat.add n m) b) b (Nat.add n m))))) ⟨t,H.n⟩)
    (cond (Nat.beq (Nat.add o (Nat.mul n esz)) xs.length) (H.t.setK N .d fun t=>A4E none e esz (xs.drop o++news) ⟨t,H.n⟩ fun N H=>K (.o (.s N 0 (Nat.add n m) (.j 0 (Nat.add n m)))) H) false)) false
 | .z d=>cond (Nat.beq o (Nat.mul d esz)&&Nat.beq sz esz&&Nat.beq T e&&Nat.beq o xs.length&&Nat.beq n 0) (H.t.setK N .d fun t=>A4E none e esz news ⟨t,H.n⟩ fun N H=>K (.o (.s N 0 m (.j 0 m))) H) false
noncomputable def A2b (e esz:Nat) (s:EV) (m:Nat) (news:List EB) (H:Hp) (K:Kt):Bool:=match s with
 | .o (.l (.slice none n c))=>cond (Nat.beq n 0&&Nat.beq c 0) (cond (Nat.beq m 0) (K s H) (cond (B4c news&&Nat.ble m 10000&&not (Nat.beq esz 0)) (A4E none e esz news H fun N H=>K (.o (.s N 0 m (.j 0 m))) H) false)) false
 | .o (.s N o n c)=>cond (Nat.beq m 0) (K s H) (cond (B4c news&&Nat.ble m 10000&&not (Nat.beq esz 0)&&Nat.ble n 10000) (match rowOf H N with
  | some (T,sz,xs)=>B56 T sz e esz N o n m c xs news H K
  | none=>false) false)
 | _=>false
def elemOf (d:TD):Option (Nat × Nat):=match d with
 | .slice e esz=>some (e,esz)
 | _=>none
noncomputable def B6X {α:Type} (R:α->Bool) (l:List α):Bool:=List.rec (motive:=fun _=>Bool) true (fun x _ ih=>and (R x) ih) l
def B7y (P:Program) (t:Nat):Option (Nat × TypeDesc × Nat):=match P.underlying t with
 | some (.map k e)=>match P.underlying k with
  | some d=>some (k,d,e)
  | none=>none
 | _=>none
def B57 (d:TypeDesc) (k:Value):Bool:=match d,k with
 | .string,.string _=>true
 | .int q,.int q' _=>G7 q' q
 | _,_=>false
noncomputable def B7z (d:TypeDesc) (a b:Value):Option Bool:=match d,a,b with
 | .string,.string a,.string b=>some (eqL a.data.toList b.data.toList)
 | .int _,.int q a,.int q' b=>cond (G7 q q') (some (eqI a b)) none
 | _,_,_=>none
noncomputable def posK (d:TypeDesc) (k:Value) (es:List (Value × EV × Nat)):Nat->Option (Option Nat):=
 List.rec (motive:=fun _=>Nat->Option (Option Nat)) (fun _=>some none) (fun x _ ih i=>match B7z d k x.1 with
  | some true=>some (some i)
  | some false=>ih (Nat.succ i)
  | none=>none) es
noncomputable def mapOf (M:Mach) (t:Nat) (m k:EV) (H:Hp):Option (Nat × Nat × Value × List (Value × EV × Nat) × Nat × Option Nat):=match B7y M.P t,m,k with
 | some (_,d,e),.o (.m N),.o (.l k)=>cond (B57 d k) (match H.t.get N with
  | some (.m es clock)=>match posK d k es 0 with
   | some j=>some (N,e,k,es,clock,j)
   | none=>none
  | _=>none) none
 | _,_,_=>none
def B7R (d:TD):Option EV:=match d with
 | .none=>none
 | .array _ _ _ z=>some (.a (z.map .l))
 | .struct _ z=>some (.a (z.map .l))
 | d=>match d.zero with
  | [z]=>some (lit z)
  | _=>none
def B3c (v:EV):Option (Bool × List EB):=match v with
 | .o x=>some (false,[x])
 | .a xs=>some (true,xs)
 | .t _=>none
noncomputable def A4F (M:Mach) (t:Nat) (m k:EV) (ok:Bool) (H:Hp) (K:Kt):Bool:=match mapOf M t m k H with
 | some (N,e,k,es,clock,j)=>match (match j with
   | some i=>match es[i]? with
    | some x=>some x.2.1
    | none=>none
   | none=>B7R (M.L.ty e)) with
  | some v=>cond ok (match B3c v with
   | some p=>fV (.t [p,(false,[.l (.bool j.isSome)])]) fun v=>K v H
   | none=>false) (fV v fun v=>K v H)
  | none=>false
 | none=>false
noncomputable def A0r (N:Nat) (es:List (Value × EV × Nat)) (clock:Nat) (H:Hp) (K:Kt):Bool:=fL es fun es=>fN clock fun clock=>H.t.setK N (.m es clock) fun t=>K (lit undef) ⟨t,H.n⟩
noncomputable def A4G (M:Mach) (t:Nat) (m k v:EV) (H:Hp) (K:Kt):Bool:=match mapOf M t m k H with
 | some (N,e,k,es,clock,j)=>match j with
  | some i=>match es[i]? with
   | some x=>A0r N (es.set i (k,v,x.2.2)) clock H K
   | none=>false
  | none=>A0r N (es++[(k,v,clock)]) (Nat.succ clock) H K
 | none=>false
noncomputable def A6g (M:Mach) (t:Nat) (m k:EV) (H:Hp) (K:Kt):Bool:=match mapOf M t m k H with
 | some (N,e,k,es,clock,j)=>match j with
  | some i=>A0r N (es.eraseIdx i) clock H K
  | none=>A0r N es clock H K
 | none=>false
noncomputable def A7r (M:Mach) (nm:Option Nat) (t:Nat) (m:EV) (H:Hp) (K:Kt):Bool:=match B7y M.P t,m with
 | some _,.o (.m N)=>match H.t.get N with
  | some (.m es clock)=>B4d nm (.i N clock [] clock) H fun N H=>K (.o (.p N 0)) H
  | _=>false
 | _,_=>false
noncomputable def B7S (n:Nat) (l:List Nat):Bool:=List.rec (motive:=fun _=>Bool) false (fun x _ ih=>or (Nat.beq n x) ih) l
noncomputable def B3d (it:EV) (s:Bool) (H:Hp) (K:Kt):Bool:=match it,s with
 | .o (.p N 0),false=>match H.t.get N with
  | some (.i M since seen c0)=>match H.t.get M with
   | some (.m es clock)=>cond (B6X (fun x=>Nat.blt x.2.2 since) es&&Nat.ble since c0) (match es.filter fun x=>not (B7S x.2.2 seen) with
    | []=>K (.t [(false,[.l (.bool false)])]) H
    | [x]=>match B3c x.2.1 with
     | some p=>fL (seen++[x.2.2]) fun seen=>H.t.setK N (.i M since seen clock) fun t=>K (.t [(false,[.l (.bool true)]),(false,[.l x.1]),p]) ⟨t,H.n⟩
     | none=>false
    | _=>false) false
   | _=>false
  | _=>false
 | _,_=>false
noncomputable def A7s (it:EV) (H:Hp) (K:Kt):Bool:=match it with
 | .o (.p N 0)=>match H.t.get N with
  | some (.i M since seen c0)=>match H.t.get M,seen.getLast? with
   | some (.m es clock),some b=>cond (Nat.beq clock c0) (match es.filter fun x=>Nat.beq x.2.2 b with
    | [x]=>match B3c x.2.1 with
     | some p=>fV (.t [(false,[.l x.1]),p]) fun v=>K v H
     | none=>false
    | _=>false) false
   | _,_=>false
  | _=>false
 | _=>false
def A4H (P:Program) (t:Nat):Option Nat:=match P.underlying t with
 | some (.slice e)=>match P.underlying e with
  | some (.int .u8)=>some e
  | _=>none
 | _=>none
def B3e (x:EB):Option UInt8:=match x with
 | .l (.int .u8 (.ofNat n))=>cond (Nat.blt n 256) (some (UInt8.ofNat n)) none
 | _=>none
noncomputable def A5n (xs:List EB):Option (List UInt8):=List.rec (motive:=fun _=>Option (List UInt8)) (some []) (fun x _ ih=>match B3e x,ih with
 | some b,some r=>some (b::r)
 | _,_=>none) xs
noncomputable def sliceB (v:EV) (H:Hp):Option (List UInt8):=match v with
 | .o (.l (.slice none n _))=>cond (Nat.beq n 0) (some []) none
 | .o (.s N o n c)=>cond (Nat.beq n 0) (some []) (match c,rowR H N with
  | .z _,_=>none
  | _,some xs=>cond (Nat.ble (Nat.add o n) xs.length) (A5n ((xs.drop o).take n)) none
  | _,none=>none)
 | _=>none
def B1h (P:Program) (t:Nat):Option Nat:=match P.underlying t with
 | some (.pointer e)=>some e
 | _=>none
def B3f (P:Program) (t:Nat):Bool:=match P.underlying t with
 | some .unsafePointer=>true
 | _=>false
def B4e (P:Program) (t:Nat):Bool:=match P.info? t with
 | some j=>not (Nat.beq j.size 0)
 | none=>false
def B4f (c:EC):Bool:=match c with
 | .k c=>not (Nat.beq c 0)
 | .j _ b=>not (Nat.beq b 0)
 | .z _=>false
noncomputable def B3g (M:Mach) (nm:Option Nat) (s d:Nat) (v:EV) (H:Hp) (K:Kt):Bool:=match v with
 | .o (.l (.string b))=>match A4H M.P d with
  | some e=>cond (A85 M.P s&&Nat.ble b.data.toList.length 1000000) (fL (b.data.toList.map fun c=>.l (.int .u8 (.ofNat c.toNat))) fun xs=>B4d nm (.r xs) H fun N H=>fN xs.length fun n=>K (.o (.s N 0 n (.j 0 n))) H) false
  | none=>false
 | .o (.p N o)=>match H.t.get N with
  | some (.c T 0 xs)=>cond (Nat.blt o xs.length) (match B1h M.P s,B1h M.P d with
   | some t,none=>cond (B3f M.P d&&B4e M.P t) (K v H) false
   | none,some u=>cond (B3f M.P s&&(M.P.info? u).isSome&&liesAt M.P M.P.depth T (xs.length / M.P.cellsOf T) o u 1) (K v H) false
   | _,_=>false) false
  | _=>false
 | v=>cond (A85 M.P d) (match A4H M.P s,sliceB v H with
  | some _,some l=>fL l fun l=>K (.o (.l (.string (bytes l)))) H
  | _,_=>false) false
def B1i (L:Lay) (s d:Nat):Bool:=match L.ty s,L.ty d with
 | .int _,.int _=>true
 | .str,.str=>true
 | _,_=>false
noncomputable def B58 (v:EV) (H:Hp) (K:Kt):Bool:=match v with
 | .o (.l (.slice none _ _))=>K (lit (.pointer none)) H
 | .o (.s N o n c)=>cond (B4f c) (K (.o (.p N o)) H) false
 | _=>false
noncomputable def B59 (M:Mach) (pt:Nat) (p:EV) (n:Int) (H:Hp) (K:Kt):Bool:=match n with
 | .ofNat n=>cond (Nat.beq n 0) (match p with
   | .o (.l (.pointer none))=>K (lit (.string (bytes []))) H
   | .o (.p _ _)=>K (lit (.string (bytes []))) H
   | _=>false) (match p with
  | .o (.p N o)=>match rowOf H N,B1h M.P pt with
   | some (T,sz,xs),some e=>cond (Nat.beq T e&&Nat.beq (M.P.cellsOf e) 1&&not (Nat.beq sz 0)&&Nat.ble (Nat.add o n) xs.length&&Nat.ble n 1000000) (match A5n ((xs.drop o).take n) with
    | some l=>fL l fun l=>H.t.setK N (.r xs) fun t=>K (lit (.string (bytes l))) ⟨t,H.n⟩
    | none=>false) false
   | _,_=>false
  | _=>false)
 | _=>false
noncomputable def B3h (M:Mach) (nm:Option Nat) (t:Nat) (l c:EV) (H:Hp) (K:Kt):Bool:=match l,c,M.L.ty t with
 | .o (.l (.int _ (.ofNat n))),.o (.l (.int _ (.ofNat c))),.slice e esz=>match M.P.info? e,(M.L.ty e).isAgg,(M.L.ty e).zero with
  | some i,false,[z]=>cond (Nat.ble n c&&Nat.ble c 10000&&Nat.beq esz 1&&Nat.ble i.bytes 4096) (A4E nm e 0 (List.replicate c (.l z)) H fun N H=>K (.o (.s N 0 n (.k c))) H) false
  | _,_,_=>false
 | _,_,_=>false
noncomputable def xBu (M:Mach) (b:Builtin) (ats:List Nat) (xs:List EV) (H:Hp) (K:Kt):Bool:=match b,ats,xs with
 | .append,[t,tx],[s,x]=>match elemOf (M.L.ty t) with
  | some (e,esz)=>cond (B8R M.P t e esz) (match B1g M.P tx x esz H with
   | some (m,news)=>fN m fun m=>fL news fun news=>A2b e esz s m news H fun v H=>fV v fun v=>K v H
   | none=>false) false
  | none=>false
 | .delete,[t,_],[m,k]=>A6g M t m k H K
 | .unsafeSliceData,[_],[v]=>B58 v H K
 | .unsafeString,[pt,_],[p,.o (.l (.int .i64 n))]=>B59 M pt p n H K
 | .clear,[t],[.o (.s N o n c)]=>match elemOf (M.L.ty t),rowOf H N with
  | some (e,esz),some (T,sz,xs)=>match (M.L.ty e).zero with
   | [z]=>cond (Nat.beq esz 1&&not (M.L.ty e).isAgg&&not (Nat.beq n 0)&&z.oneCell'&&Nat.ble (Nat.add o n) xs.length&&(match c with | .z _=>false | _=>true)) (fL (A7l xs o (List.replicate n (.l z))) fun xs=>H.t.setK N (.c T sz xs) fun t=>K (lit undef) ⟨t,H.n⟩) false
   | _=>false
  | _,_=>false
 | _,_,_=>false
noncomputable def B6A (M:Mach) (call:Nat->List EV->Hp->Kt->Bool) (nm:Option Nat) (T:Nat) (F:Tr EV) (H:Hp) (K:Kt) (t:Nat) (x:Operand):Bool:=match xEv F x with
  | some v=>match A6f M t v H with
   | some u=>fV u fun u=>K u H
   | none=>false
  | none=>false
noncomputable def B3i (M:Mach) (call:Nat->List EV->Hp->Kt->Bool) (nm:Option Nat) (T:Nat) (F:Tr EV) (H:Hp) (K:Kt) (t:Nat) (x:Operand) (y:Operand):Bool:=match xEv F x,xEv F y with
  | some v,some u=>A7q M t v u H K
  | _,_=>false
noncomputable def B3j (M:Mach) (call:Nat->List EV->Hp->Kt->Bool) (nm:Option Nat) (T:Nat) (F:Tr EV) (H:Hp) (K:Kt) (t:Nat):Bool:=match M.L.ty t with
  | .none=>false
  | d=>A4E nm t 0 (d.zero.map .l) H fun N H=>K (.o (.p N 0)) H
noncomputable def B7T (M:Mach) (call:Nat->List EV->Hp->Kt->Bool) (nm:Option Nat) (T:Nat) (F:Tr EV) (H:Hp) (K:Kt) (t:Nat) (x:Operand):Bool:=match xEv F x with
  | some v=>match A3I v with
   | some ys=>A4E nm t 0 ys H fun N H=>K (.o (.p N 0)) H
   | none=>false
  | none=>false
noncomputable def A4I (M:Mach) (call:Nat->List EV->Hp->Kt->Bool) (nm:Option Nat) (T:Nat) (F:Tr EV) (H:Hp) (K:Kt) (t:Nat) (n:Nat) (ps:Array (Nat × Operand)):Bool:=match elemOf (M.L.ty t) with
  | some (e,esz)=>cond (Nat.beq n 0&&A1X ps.toList) (A4E nm e 0 [] H fun N H=>K (.o (.s N 0 0 (.k 0))) H)
   (cond (Nat.ble (Nat.mul n esz) 16777216&&!Nat.beq esz 0&&!Nat.beq n 0&&Nat.beq (M.L.ty e).size esz) (match xPs F ps.toList,M.L.ty e with
    | some l,.none=>false
    | some l,d=>match A3J esz l (P2 d.zero n |>.map .l) with
     | some cs=>A4E nm e 0 cs H fun N H=>K (.o (.s N 0 n (.k n))) H
     | none=>false
    | none,_=>false) false)
  | none=>false
noncomputable def B6B (M:Mach) (call:Nat->List EV->Hp->Kt->Bool) (nm:Option Nat) (T:Nat) (F:Tr EV) (H:Hp) (K:Kt) (c:Go.Call):Bool:=match B6V F c.args.toList with
  | some xs=>match c.callee with
   | .builtin b=>cond (L6 b) (match A2Y M.L b c.argTypes.toList xs with
    | some v=>fV v fun v=>K v H
    | none=>false) (xBu M b c.argTypes.toList xs H K)
   | .value fo=>match xEv F fo with
    | some (.o (.f g cs))=>call g (xs++cs.map fun c=>.o (.p c.1 c.2)) H fun v H=>K v H
    | _=>false
   | .invoke ..=>false
  | none=>false
noncomputable def A86 (M:Mach) (call:Nat->List EV->Hp->Kt->Bool) (nm:Option Nat) (T:Nat) (F:Tr EV) (H:Hp) (K:Kt) (s:Nat) (d:Nat) (x:Operand):Bool:=cond (B1i M.L s d) (match xP M.P M.L M.Q T (.convert s d x) F with
  | some v=>fV v fun v=>K v H
  | none=>false) (match xEv F x with
  | some v=>B3g M nm s d v H K
  | none=>false)
noncomputable def A5o (M:Mach) (call:Nat->List EV->Hp->Kt->Bool) (nm:Option Nat) (T:Nat) (F:Tr EV) (H:Hp) (K:Kt) (t:Nat) (l:Operand) (c:Operand):Bool:=match xEv F l,xEv F c with
  | some l,some c=>B3h M nm t l c H K
  | _,_=>false
noncomputable def B1j (M:Mach) (call:Nat->List EV->Hp->Kt->Bool) (nm:Option Nat) (T:Nat) (F:Tr EV) (H:Hp) (K:Kt) (t:Nat) (x:Operand) (y:Operand) (ok:Bool):Bool:=match xEv F x,xEv F y with
  | some m,some k=>A4F M t m k ok H K
  | _,_=>false
noncomputable def A5p (M:Mach) (call:Nat->List EV->Hp->Kt->Bool) (nm:Option Nat) (T:Nat) (F:Tr EV) (H:Hp) (K:Kt) (t:Nat) (x:Operand) (y:Operand) (z:Operand):Bool:=match xEv F x,xEv F y,xEv F z with
  | some m,some k,some v=>A4G M t m k v H K
  | _,_,_=>false
noncomputable def B3k (M:Mach) (call:Nat->List EV->Hp->Kt->Bool) (nm:Option Nat) (T:Nat) (F:Tr EV) (H:Hp) (K:Kt) (t:Nat) (x:Operand):Bool:=match xEv F x with
  | some m=>A7r M nm t m H K
  | none=>false
noncomputable def B6C (M:Mach) (call:Nat->List EV->Hp->Kt->Bool) (nm:Option Nat) (T:Nat) (F:Tr EV) (H:Hp) (K:Kt) (x:Operand) (s:Bool):Bool:=match xEv F x with
  | some it=>B3d it s H K
  | none=>false
noncomputable def B3l (M:Mach) (call:Nat->List EV->Hp->Kt->Bool) (nm:Option Nat) (T:Nat) (F:Tr EV) (H:Hp) (K:Kt) (x:Operand):Bool:=match xEv F x with
  | some it=>A7s it H K
  | none=>false
noncomputable def xO (M:Mach) (call:Nat->List EV->Hp->Kt->Bool) (nm:Option Nat) (T:Nat) (op:Op) (F:Tr EV) (H:Hp) (K:Kt):Bool:=match op with
 | .load t x=>B6A M call nm T F H K t x
 | .store t x y=>B3i M call nm T F H K t x y
 | .alloc t=>B3j M call nm T F H K t
 | .box t x=>B7T M call nm T F H K t x
 | .buildSlice t n ps=>A4I M call nm T F H K t n ps
 | .call c=>B6B M call nm T F H K c
 | .convert s d x=>A86 M call nm T F H K s d x
 | .makeSlice t l c=>A5o M call nm T F H K t l c
 | .makeMap t none=>B4d nm (.m [] 0) H fun N H=>K (.o (.m N)) H
 | .lookup t x y ok=>B1j M call nm T F H K t x y ok
 | .mapUpdate t x y z=>A5p M call nm T F H K t x y z
 | .range t x=>B3k M call nm T F H K t x
 | .next x s=>B6C M call nm T F H K x s
 | .entry x=>B3l M call nm T F H K x
 | op=>match xP M.P M.L M.Q T op F with
  | some v=>fV v fun v=>K v H
  | none=>false
noncomputable def B6D (F:Tr EV) (d:Option Nat) (v:EV) (K:Tr EV->Bool):Bool:=match d with
 | some t=>F.setK t v K
 | none=>K F
noncomputable def A3K (ops:List Oper) (F:Tr EV) (g:Option (Nat × Bool)):Option Bool:=match g with
 | none=>some true
 | some (j,want)=>match ops[j]? with
  | some o=>match o.dst with
   | some t=>match F.get t with
    | some (.o (.l (.bool b)))=>some (b==want)
    | some (.o (.l (.tuple _)))=>some false
    | _=>none
   | none=>some false
  | none=>some false
noncomputable def A5q (M:Mach) (call:Nat->List EV->Hp->Kt->Bool) (nm:Option Nat) (ops:List Oper) (o:Oper) (F:Tr EV) (H:Hp) (K:Tr EV->Hp->Bool):Bool:=match A3K ops F o.guard with
 | some true=>xO M call nm o.type o.op F H fun v H=>B6D F o.dst v fun F=>K F H
 | some false=>B6D F o.dst (lit undef) fun F=>K F H
 | none=>false
noncomputable def B8S (M:Mach) (call:Nat->List EV->Hp->Kt->Bool) (ops:List Oper) (l:List Oper):Tr EV->Hp->(Tr EV->Hp->Bool)->Bool:=
 List.rec (motive:=fun _=>Tr EV->Hp->(Tr EV->Hp->Bool)->Bool) (fun F H K=>K F H) (fun o _ ih F H K=>A5q M call none ops o F H fun F H=>ih F H K) l
def B1k (L:Lay) (op:Op):Bool:=match op with
 | .move _ | .assign _ | .pick .. | .binOp .. | .unOp .. | .fieldAddr .. | .field .. | .build .. | .index .. | .indexAddr .. | .slice .. | .extract .. | .makeFunc .. | .nilCheck _=>true
 | .call c=>match c.callee with
  | .builtin b=>L6 b
  | _=>false
 | .convert s d _=>B1i L s d
 | _=>false
def B7U (op:Op):Bool:=match op with
 | .load ..=>true
 | _=>false
noncomputable def B8T (L:Lay) (late:Nat->Bool) (l:List Oper):Nat->Nat->List Bool:=List.rec (motive:=fun _=>Nat->Nat->List Bool) (fun _ _=>[]) (fun o _ ih i m=>
 Bool.rec (motive:=fun _=>List Bool)
  (cond (B1k L o.op||(B7U o.op&&not (late i))) (false::ih (Nat.succ i) m) (true::ih (Nat.succ i) (Nat.lor m (bit i))))
  (cond (B1k L o.op) false true::ih (Nat.succ i) (Nat.lor m (bit i)))
  (not (Nat.beq (Nat.land (A84 o.after.toList) m) 0))) l
noncomputable def B3m (L:Lay) (late:Nat->Bool) (ops:List Oper):Sched:=mkM (Y0 ops.toArray ops (B8T L late ops 0 0) ops 0) (bit ops.length-1) (Nat.succ ops.length) 0
noncomputable def B70 (a b:Value):Bool:=match a,b with
 | .int k x,.int k' y=>G7 k k'&&eqI x y
 | .string s,.string t=>eqL s.data.toList t.data.toList
 | .bool x,.bool y=>x==y
 | .pointer none,.pointer none=>true
 | .slice none n c,.slice none n' c'=>Nat.beq n n'&&Nat.beq c c'
 | .nilIface,.nilIface=>true
 | .nilFunc,.nilFunc=>true
 | .map none,.map none=>true
 | .complex .f64 x y,.complex .f64 x' y'=>Nat.beq x x'&&Nat.beq y y'
 | .float .f64 x,.float .f64 x'=>Nat.beq x x'
 | .tuple a,.tuple b=>A1X a.toList&&A1X b.toList
 | _,_=>false
noncomputable def eqC (a b:EC):Bool:=match a,b with
 | .k c,.k d=>Nat.beq c d
 | .j c b,.j d b'=>Nat.beq c d&&Nat.beq b b'
 | .z c,.z d=>Nat.beq c d
 | _,_=>false
noncomputable def B1l {α:Type} (R:α->α->Bool) (a:List α):List α->Bool:=List.rec (motive:=fun _=>List α->Bool) (fun b=>A1X b) (fun x _ ih b=>match b with
 | []=>false
 | y::r=>and (R x y) (ih r)) a
noncomputable def eqE (a b:EB):Bool:=match a,b with
 | .l x,.l y=>B70 x y
 | .p N o,.p M o'=>Nat.beq N M&&Nat.beq o o'
 | .s N o n c,.s M o' n' c'=>Nat.beq N M&&Nat.beq o o'&&Nat.beq n n'&&eqC c c'
 | .m N,.m M=>Nat.beq N M
 | .f g cs,.f h ds=>Nat.beq g h&&B1l (fun c d=>Nat.beq c.1 d.1&&Nat.beq c.2 d.2) cs ds
 | .rg k lo hi,.rg k' lo' hi'=>G7 k k'&&eqI lo lo'&&eqI hi hi'
 | .bo,.bo=>true
 | _,_=>false
noncomputable def eqX (a b:EV):Bool:=match a,b with
 | .o x,.o y=>eqE x y
 | .a x,.a y=>B1l eqE x y
 | .t x,.t y=>B1l (fun c d=>(c.1==d.1)&&B1l eqE c.2 d.2) x y
 | _,_=>false
noncomputable def eqO {α:Type} (R:α->α->Bool) (a b:Option α):Bool:=match a,b with
 | none,none=>true
 | some x,some y=>R x y
 | _,_=>false
noncomputable def eqT {α:Type} (R:α->α->Bool) (a:Tr α):Tr α->Bool:=Tr.rec (motive:=fun _=>Tr α->Bool) (fun b=>match b with
  | .e=>true
  | _=>false)
 (fun v _ _ il ir b=>match b with
  | .e=>false
  | .n v' l' r'=>eqO R v v'&&il l'&&ir r') a
noncomputable def B1m (a b:Ent):Bool:=match a,b with
 | .d,.d=>true
 | .c T sz xs,.c T' sz' xs'=>Nat.beq T T'&&Nat.beq sz sz'&&B1l eqE xs xs'
 | .m es c,.m es' c'=>B1l (fun c d=>B70 c.1 d.1&&eqX c.2.1 d.2.1&&Nat.beq c.2.2 d.2.2) es es'&&Nat.beq c c'
 | .i M s l c,.i M' s' l' c'=>Nat.beq M M'&&Nat.beq s s'&&B1l Nat.beq l l'&&Nat.beq c c'
 | .r xs,.r xs'=>B1l eqE xs xs'
 | _,_=>false
noncomputable def B6E (a:EB):Bool:=match a with
 | .s _ _ _ (.z _)=>false
 | .rg _ _ _=>false
 | .bo=>false
 | _=>true
noncomputable def A87 (xs:List EB):Bool:=List.rec (motive:=fun _=>Bool) true (fun x _ ih=>and (B6E x) ih) xs
structure Acc where
 lks:List (Nat × Nat × List EB)
 hs:List Hp
noncomputable def A5r (H:Hp) (lk:Nat × Nat × List EB):Bool:=match rowR H lk.1 with
 | some xs=>B1l eqE ((xs.drop lk.2.1).take lk.2.2.length) lk.2.2&&A87 lk.2.2
 | none=>false
noncomputable def B3n (M:Mach) (t:Nat) (v:EV) (H0:Hp) (A:Acc) (K:EV->Acc->Bool):Bool:=match v with
 | .o (.p N o)=>match rowR H0 N,M.L.ty t with
  | some xs,d=>match xLd d xs o with
   | some u=>fL ((xs.drop o).take d.size) fun ys=>cond (A87 ys&&B6X (fun H=>A5r H (N,o,ys)) A.hs) (fV u fun u=>K u ⟨(N,o,ys)::A.lks,A.hs⟩) false
   | none=>false
  | none,_=>false
 | _=>false
noncomputable def xQ (M:Mach) (H0:Hp) (T:Nat) (op:Op) (F:Tr EV) (A:Acc) (K:EV->Acc->Bool):Bool:=match op with
 | .load t x=>match xEv F x with
  | some v=>B3n M t v H0 A K
  | none=>false
 | op=>match xP M.P M.L M.Q T op F with
  | some v=>fV v fun v=>K v A
  | none=>false
abbrev Kd:=Tr EV->Hp->Acc->Bool
noncomputable def xD (M:Mach) (call:Nat->List EV->Hp->Kt->Bool) (ops:List Oper) (H0:Hp) (nb:Nat) (s:Sched):Tr EV->Hp->Acc->Kd->Bool:=
 Sched.rec (motive:=fun _=>Tr EV->Hp->Acc->Kd->Bool)
  (fun F H A K=>K F H A)
  (fun i F H A K=>match ops[i]? with
   | some o=>A5q M call (some (Nat.add nb i)) ops o F H fun F H=>K F H A
   | none=>false)
  (fun i _ ih F H A K=>match ops[i]? with
   | some o=>match A3K ops F o.guard with
    | some true=>xQ M H0 o.type o.op F A fun v A=>B6D F o.dst v fun F=>ih F H A K
    | some false=>B6D F o.dst (lit undef) fun F=>ih F H A K
    | none=>false
   | none=>false)
  (fun i _ t ihs iht F H A K=>match ops[i]? with
   | some o=>A5q M call (some (Nat.add nb i)) ops o F H fun F1 H1=>cond (B6X (A5r H1) A.lks) (ihs F1 H1 ⟨A.lks,H1::A.hs⟩ fun F2 H2 A2=>cond t.isStop (K F2 H2 A2) (iht F H A2 fun F3 H3 A3=>cond (eqT eqX F2 F3&&eqT B1m H2.t H3.t&&Nat.beq H2.n H3.n) (K F2 H2 A3) false)) false
   | none=>false)
  (fun F H A K=>K F H A) s
@[irreducible] def A7t:Nat:=100000
abbrev Kc:=Exit->Tr EV->Hp->Bool
noncomputable def A7u (X:Tr EV->Hp->Kc->Bool) (K:Kc) (n:Nat):Tr EV->Hp->Bool:=Nat.rec (motive:=fun _=>Tr EV->Hp->Bool) (fun _ _=>false) (fun _ go F H=>X F H fun e F H=>match e with
 | .normal=>go F H
 | e=>K e F H) n
noncomputable def A1K (M:Mach) (call:Nat->List EV->Hp->Kt->Bool) (g:Nat) (c:Code):Tr EV->Hp->Kc->Bool:=
 Code.rec (motive:=fun _=>Tr EV->Hp->Kc->Bool)
  (fun F H K=>K .normal F H)
  (fun id ops d F H K=>cond d
   (cond (A5m ops.toList (B8T M.L (M.late g id) ops.toList 0 0) (B3m M.L (M.late g id) ops.toList)) (fN (Nat.add H.n ops.toList.length) fun n=>xD M call ops.toList H H.n (B3m M.L (M.late g id) ops.toList) F ⟨H.t,n⟩ ⟨[],[]⟩ fun F H _=>K .normal F H) false)
   (B8S M call ops.toList ops.toList F H fun F H=>K .normal F H))
  (fun _ _ iha ihb F H K=>iha F H fun e F H=>match e with
   | .normal=>ihb F H K
   | e=>K e F H)
  (fun c _ _ iha ihb F H K=>match xEv F c with
   | some (.o (.l (.bool b)))=>Bool.rec (ihb F H K) (iha F H K) b
   | _=>false)
  (fun id _ ih F H K=>ih F H fun e F H=>match e with
   | .exit i=>cond (Nat.beq i id) (K .normal F H) (K (.exit i) F H)
   | e=>K e F H)
  (fun _ ih F H K=>A7u ih K A7t F H)
  (fun _ _ _ _ _ _ _ _ _=>false)
  (fun id F H K=>K (.exit id) F H)
  (fun _ _ _ _ _=>false)
  (fun _ F H K=>K .normal F H)
  (fun _ _ _ _=>false)
  (fun F H K=>K .ret F H)
  (fun _ _ _ _=>false) c
noncomputable def B4g (M:Mach) (F:Tr EV) (H:Hp) (rs:List ResultVar):List EV->(List EV->Bool)->Bool:=
 List.rec (motive:=fun _=>List EV->(List EV->Bool)->Bool) (fun vs K=>K vs.reverse) (fun r _ ih vs K=>match r with
  | .tmp t=>match F.get t with
   | some v=>ih (v::vs) K
   | none=>false
  | .cell a t=>match F.get a with
   | some p=>match A6f M t p H with
    | some v=>fV v fun v=>ih (v::vs) K
    | none=>false
   | none=>false) rs
noncomputable def B8U (vs:List EV):Option (List (Bool × List EB)):=List.rec (motive:=fun _=>Option (List (Bool × List EB))) (some []) (fun v _ ih=>match ih with
 | some r=>match v with
  | .o x=>some ((false,[x])::r)
  | .a xs=>some ((true,xs)::r)
  | .t _=>none
 | none=>none) vs
noncomputable def B6F (vs:List EV):Option EV:=match vs with
 | [v]=>some v
 | vs=>match B8U vs with
  | some ys=>some (.t ys)
  | none=>none
noncomputable def B3o (args:List EV):Nat->Tr EV->(Tr EV->Bool)->Bool:=
 List.rec (motive:=fun _=>Nat->Tr EV->(Tr EV->Bool)->Bool) (fun _ F K=>K F) (fun v _ ih i F K=>F.setK i v fun F=>ih (Nat.succ i) F K) args
noncomputable def A88 (M:Mach) (fuel:Nat):Nat->List EV->Hp->Kt->Bool:=
 Nat.rec (motive:=fun _=>Nat->List EV->Hp->Kt->Bool) (fun _ _ _ _=>false) (fun _ ih n args H K=>match M.prim n args H with
  | some v=>fV v fun v=>K v H
  | none=>cond (M.L.fns n) (match M.P.funcs[n]? with
   | some fn=>match fn.body with
    | some c=>cond (Nat.ble args.length fn.ntmps&&K7 fn.ntmps c) (B3o args 0 .e fun F=>A1K M ih n c F H fun e F H=>match e with
      | .normal=>B4g M F H fn.results.toList [] fun vs=>match B6F vs with
       | some v=>fV v fun v=>K v H
       | none=>false
      | .ret=>B4g M F H fn.results.toList [] fun vs=>match B6F vs with
       | some v=>fV v fun v=>K v H
       | none=>false
      | _=>false) false
    | none=>false
   | none=>false) false) fuel
end Go.Vx
section
namespace Go.Vx
open Go Go.Vc Go.RowKit
structure MachOk (M:Mach) (E:World->Prop):Prop where
 lay:M.L.Ok M.P
 mixed:M.P.follows .mixedOrders=true
 prim:∀ n args H v,M.prim n args H=some v->∀ w0 σ w us,E w0->Rep w0 σ H w->All2 (VR σ) args us->∀ R:Value->World->Prop,(∀ u w',VR σ v u->Below w.heap.size w w'->R u w')->X3 M.P M.L n us w R
def A89 (E:World->Prop) (F:Tr EV) (H:Hp) (v:EV) (H':Hp) (X:Fr->World->(Value->World->Prop)->Prop):Prop:=
 ∀ w0 σ f w,E w0->FR σ F f->Rep w0 σ H w->∀ R,(∀ τ u w',Ex σ τ->VR τ v u->Rep w0 τ H' w'->R u w')->X f w R
def A09 (M:Mach) (E:World->Prop) (call:Nat->List EV->Hp->Kt->Bool):Prop:=∀ n args H K,call n args H K=true->∃ v H',K v H'=true/\∀ w0 σ w us,E w0->Rep w0 σ H w->All2 (VR σ) args us->∀ R:Value->World->Prop,(∀ τ u w',Ex σ τ->VR τ v u->Rep w0 τ H' w'->R u w')->X3 M.P M.L n us w R
section
variable {M:Mach} {E:World->Prop} {F:Tr EV} {H:Hp} {K:Kt} {σ:Sg} {w0 w:World} {f:Fr}
theorem A1T {N T sz:Nat} {xs:List EB} (h:rowOf H N=some (T,sz,xs)):H.t.get N=some (.c T sz xs):=by
 unfold rowOf at h
 split at h
 ·rename_i e;cases h;exact e
 ·cases h
theorem A6h {N:Nat} {xs:List EB} (h:rowR H N=some xs):(∃ T sz,H.t.get N=some (.c T sz xs))\/H.t.get N=some (.r xs):=by
 unfold rowR at h
 split at h
 ·rename_i e;cases h;exact .inl ⟨_,_,e⟩
 ·rename_i e;cases h;exact .inr e
 ·cases h
theorem cells_of {a:Addr}:∀ (us:List Value) (k:Nat),(∀ j u,us[j]?=some u->w.cell? (a.add (k+j))=some u)->cellsAt w a us k
 | [],_,_=>trivial
 | u::us,k,h=>⟨h 0 u rfl,cells_of us (k+1) fun j v hj=>by rw [show k+1+j=k+(j+1) by omega];exact h (j+1) v (by simpa using hj)⟩
theorem _root_.Go.Vx.Rep.rowR (h:Rep w0 σ H w) {N:Nat} {xs:List EB} (e:Go.Vx.rowR H N=some xs) (i n:Nat) (hi:i+n<=xs.length):
  ∃ q cs,σ N=some q/\All2 (BR σ) ((xs.drop i).take n) cs/\cs.length=n/\cellsAt w ⟨q.b,q.o+i,none⟩ cs 0:=by
 rcases A6h e with ⟨T,sz,e⟩ | e
 ·exact h.row e i n hi
 ·obtain⟨q,cs,h1,h2,h3,h4,h5⟩:=h.ent N _ e
  have hl:=h4.len
  refine⟨q,_,h1,(h4.drop i).take n,by rw [List.length_take,List.length_drop];omega,cells_of _ 0 fun j v hj=>?_⟩
  rw [List.getElem?_take] at hj
  split at hj
  ·rw [List.getElem?_drop] at hj
   rw [Addr.add_lit,Nat.zero_add,Nat.add_assoc]
   exact h5 _ _ hj
  ·cases hj
theorem _root_.Go.Vx.Rep.cellR (h:Rep w0 σ H w) {N:Nat} {xs:List EB} (e:Go.Vx.rowR H N=some xs) {i:Nat} {x:EB} (hx:xs[i]?=some x):∃ q v,σ N=some q/\BR σ x v/\w.cell? ⟨q.b,q.o+i,none⟩=some v:=by
 rcases A6h e with ⟨T,sz,e⟩ | e
 ·exact h.cell e hx
 ·obtain⟨q,cs,h1,h2,h3,h4,h5⟩:=h.ent N _ e
  obtain⟨v,hv,hr⟩:=h4.get hx
  exact⟨q,v,h1,hr,h5 _ _ hv⟩
theorem _root_.Go.Vx.Rep.placeR (h:Rep w0 σ H w) {N:Nat} {xs:List EB} (e:Go.Vx.rowR H N=some xs):∃ q,σ N=some q:=by
 rcases A6h e with ⟨T,sz,e⟩ | e
 ·obtain⟨q,h,_⟩:=(h.ent N _ e).place rfl;exact⟨q,h⟩
 ·obtain⟨q,h,_⟩:=(h.ent N _ e).place rfl;exact⟨q,h⟩
def ldK (d:TD) (w:World) (a:Addr) (R:Value->World->Prop):Prop:=match d with
 | .none=>False
 | .array _ _ _ z=>∃ cs:List Value,cs.length=z.length/\cellsAt w a cs 0/\R (.agg cs.toArray) w
 | .struct _ z=>∃ cs:List Value,cs.length=z.length/\cellsAt w a cs 0/\R (.agg cs.toArray) w
 | _=>∃ v,w.cell? a=some v/\R v w
theorem B7V {P:Program} {L:Lay} {T t:Nat} {x:Operand} {a:Addr} {R:Value->World->Prop} (e:ev f x=.pointer (some a)) (h:ldK (L.ty t) w a R):vOp P L T (.load t x) f w R:=by
 show (match L.ty t,ev f x with
  | .none,_=>False
  | .array _ _ _ z,.pointer (some a)=>∃ cs:List Value,cs.length=z.length/\cellsAt w a cs 0/\R (.agg cs.toArray) w
  | .struct _ z,.pointer (some a)=>∃ cs:List Value,cs.length=z.length/\cellsAt w a cs 0/\R (.agg cs.toArray) w
  | _,.pointer (some a)=>∃ v,w.cell? a=some v/\R v w
  | _,_=>False)
 rw [e]
 cases hd:L.ty t<;>rw [hd] at h<;>exact h
theorem B4h {d:TD} {N o:Nat} {xs:List EB} {v:EV} (h:xLd d xs o=some v) (hR:Rep w0 σ H w) (e:rowR H N=some xs):∃ q,σ N=some q/\∀ R:Value->World->Prop,(∀ u,VR σ v u->R u w)->ldK d w ⟨q.b,q.o+o,none⟩ R:=by
 have one:(match xs[o]? with
   | some x=>some (EV.o x)
   | none=>none)=some v->∃ q,σ N=some q/\∀ R:Value->World->Prop,(∀ u,VR σ v u->R u w)->∃ u,w.cell? ⟨q.b,q.o+o,none⟩=some u/\R u w:=fun h=>by
  split at h
  ·rename_i x hx
   cases h
   obtain⟨q,u,h1,h2,h3⟩:=hR.cellR e hx
   exact⟨q,h1,fun R hu=>⟨u,h3,hu _ h2⟩⟩
  ·cases h
 have agg:∀ {z:List Value},cond (Nat.ble (Nat.add o z.length) xs.length) (some (EV.a ((xs.drop o).take z.length))) none=some v->∃ q,σ N=some q/\∀ R:Value->World->Prop,(∀ u,VR σ v u->R u w)->∃ cs:List Value,cs.length=z.length/\cellsAt w ⟨q.b,q.o+o,none⟩ cs 0/\R (.agg cs.toArray) w:=fun h=>by
  obtain⟨h1,h2⟩:=B9W h
  cases h2
  obtain⟨q,cs,k1,k2,k3,k4⟩:=hR.rowR e o _ (Nat.le_of_ble_eq_true h1)
  exact⟨q,k1,fun R hu=>⟨cs,k3,k4,hu _ ⟨cs,k2,rfl⟩⟩⟩
 cases d with
 | none=>cases h
 | array n e' esz z=>exact agg h
 | struct fs z=>exact agg h
 | int k=>exact one h
 | str=>exact one h
 | bool=>exact one h
 | slice e' esz=>exact one h
 | one z=>exact one h
theorem B3p {t T:Nat} {p v:EV} {x:Operand} (h:A6f M t p H=some v) (hF:FR σ F f) (hx:xEv F x=some p) (hR:Rep w0 σ H w) {R:Value->World->Prop} (hK:∀ u,VR σ v u->R u w):vOp M.P M.L T (.load t x) f w R:=by
 unfold A6f at h
 split at h
 ·split at h
  ·rename_i hr
   obtain⟨q,hq,hl⟩:=B4h h hR hr
   obtain⟨r,hr',e⟩:=B9 hF hx
   rw [show σ _=some r from hr'] at hq
   cases hq
   exact B7V e (hl R hK)
  ·cases h
 ·cases h
theorem B1n {t T:Nat} {p u:EV} {x y:Operand} (h:A7q M t p u H K=true) (hx:xEv F x=some p) (hy:xEv F y=some u):∃ v H',K v H'=true/\A89 E F H v H' (fun f w R=>vOp M.P M.L T (.store t x y) f w R):=by
 unfold A7q at h
 split at h
 ·rename_i N o
  split at h
  ·rename_i d T' sz xs ys hr hc
   cases hb:(B4c ys&&Nat.beq ys.length (M.L.ty t).size&&Nat.ble (Nat.add o ys.length) xs.length&&not (Nat.beq (M.L.ty t).size 0)) with
   | false=>rw [hb] at h;cases h
   | true=>
    rw [hb,cond_true,X9] at h
    obtain⟨t',h1,h2⟩:=Tr.setK_ok _ _ _ _ h
    rw [Bool.and_eq_true,Bool.and_eq_true,Bool.and_eq_true,Bool.not_eq_true'] at hb
    obtain⟨⟨⟨b1,b2⟩,b3⟩,b4⟩:=hb
    refine⟨_,_,h1,fun w0 σ f w hE hF hR R hK=>?_⟩
    obtain⟨q,hq,e⟩:=B9 hF hx
    have hu:=A2W hc (B9 hF hy)
    obtain⟨q',k1,k2,k3⟩:=hR.store (H':=⟨t',H.n⟩) (A1T hr) hu (A6c b1 hu) (Nat.le_of_ble_eq_true b3) h2
    rw [show σ N=some q from hq] at k1
    cases k1
    have key:∀ d:TD,d=M.L.ty t->A2u (ev f y) fun cs=>cond (Nat.beq cs.length d.size) (C7 w ⟨q.b,q.o+o,none⟩ cs 0/\∀ w',D0 w ⟨q.b,q.o+o,none⟩ cs w'->R undef w') False:=fun d hd=>by
     subst hd
     rw [A1Z,show (ev f y).cells.toList.length=ys.length from hu.len,b2]
     exact⟨k2,fun w' hS=>hK _ _ _ (Ex.refl _) rfl (k3 w' hS)⟩
    show (match M.L.ty t,ev f x with
     | .none,_=>False
     | d,.pointer (some a)=>A2u (ev f y) fun cs=>cond (Nat.beq cs.length d.size) (C7 w a cs 0/\∀ w',D0 w a cs w'->R undef w') False
     | _,_=>False)
    rw [e]
    cases hd:M.L.ty t with
    | none=>rw [hd] at b4;cases b4
    | _=>exact key _ hd.symm
  ·cases h
 ·cases h
theorem B1o {N n:Nat} {Z:Ent} {K:Nat->Hp->Bool} (h:B7x N n Z H K=true):∃ H',K N H'=true/\H.t.get N=none/\∀ j,H'.t.get j=if j=N then some Z else H.t.get j:=by
 unfold B7x at h
 split at h
 ·rename_i e
  obtain⟨t',h1,h2⟩:=Tr.setK_ok _ _ _ _ h
  exact⟨_,h1,e,h2⟩
 ·cases h
theorem A4J {nm:Option Nat} {Z:Ent} {K:Nat->Hp->Bool} (h:B4d nm Z H K=true):∃ N H',K N H'=true/\H.t.get N=none/\∀ j,H'.t.get j=if j=N then some Z else H.t.get j:=by
 unfold B4d at h
 split at h
 ·exact⟨_,B1o h⟩
 ·rw [V8] at h
  exact⟨_,B1o h⟩
theorem A0s {nm:Option Nat} {T sz:Nat} {xs:List EB} {K:Nat->Hp->Bool} (h:A4E nm T sz xs H K=true):∃ N H',K N H'=true/\H.t.get N=none/\∀ j,H'.t.get j=if j=N then some (.c T sz xs) else H.t.get j:=by
 unfold A4E at h
 rw [X9] at h
 exact A4J h
theorem A1U {nm:Option Nat} {t:Nat} {xs:List EB} {K:Kt} {mk:Nat->EV} {mkV:Nat->Value} (h:A4E nm t 0 xs H (fun N H=>K (mk N) H)=true) (hm:∀ (τ:Sg) N g,τ N=some ⟨g,0,0⟩->VR τ (mk N) (mkV g)):
  ∃ v H',K v H'=true/\∀ w0 σ w (cs:List Value),Rep w0 σ H w->All2 (BR σ) xs cs->∀ R:Value->World->Prop,(∀ τ u w',Ex σ τ->VR τ v u->Rep w0 τ H' w'->R u w')->∀ g w',New w cs t g w'->R (mkV g) w':=by
 obtain⟨N,H',h1,h2,h3⟩:=A0s h
 refine⟨_,_,h1,fun w0 σ w cs hR hx R hK g w' hG=>?_⟩
 obtain⟨k1,k2,k3⟩:=hR.alloc hx hG h2 h3
 exact hK _ _ _ k1 (hm _ _ _ k2) k3
theorem B4i (τ:Sg) (N g:Nat) (h:τ N=some ⟨g,0,0⟩):VR τ (.o (.p N 0)) (.pointer (some ⟨g,0,none⟩)):=⟨_,h,rfl⟩
theorem B7W (n:Nat) (τ:Sg) (N g:Nat) (h:τ N=some ⟨g,0,0⟩):VR τ (.o (.s N 0 n (.k n))) (.slice (some ⟨g,0,none⟩) n n):=⟨_,_,n,h,⟨rfl,rfl,Nat.le_refl _⟩,rfl⟩
theorem A5s {d:TD} {e esz:Nat} (h:elemOf d=some (e,esz)):d=.slice e esz:=by
 unfold elemOf at h
 split at h
 ·cases h;rfl
 ·cases h
end
end Go.Vx
end
section
namespace Go.Vx
open Go Go.Vc Go.RowKit
section
variable {P:Program} {w0 w w':World} {σ:Sg} {H H':Hp} {E:World->Prop} {K:Kt} {N T sz esz e m n:Nat} {xs news:List EB} {us:List Value}
theorem Z4 (g i k:Nat):∀ (us:List Value) (w:World),w.setCells g (i+k) us=Vc.stored w ⟨g,i,none⟩ us k:=by
 intro us
 induction us generalizing k with
 | nil=>intro w;rfl
 | cons u us ih=>
  intro w
  show (w.setCell ⟨g,i+k,none⟩ u).setCells g (i+(k+1)) us=Vc.stored (w.setCell ((⟨g,i,none⟩:Addr).add k) u) ⟨g,i,none⟩ us (k+1)
  rw [Addr.add_lit,ih]
theorem A4K {g:Nat} {cs:List Value} (h:Blk w g T cs) {i:Nat} (hi:i<cs.length):(w.cell? ⟨g,i,none⟩).isSome=true/\w.frozen? ⟨g,i,none⟩=false:=
 ⟨by rw [h.cell,List.getElem?_eq_getElem hi];rfl,h.frozen i⟩
structure AppT (P:Program) (t e esz:Nat) (i:TypeInfo) (z:Value):Prop where
 ht:P.underlying t=some (.slice e)
 hi:P.info? e=some i
 size:i.size=esz
 bytes:i.bytes<=4096
 hz:i.zero=some z
 zs:z.cells.size=esz
theorem B6G {t:Nat} (h:B8R P t e esz=true):∃ i z,AppT P t e esz i z:=by
 unfold B8R at h
 rw [Bool.and_eq_true] at h
 obtain⟨h1,h2⟩:=h
 split at h1
 ·rename_i e' hu
  have he:=Nat.eq_of_beq_eq_true h1
  subst he
  split at h2
  ·rename_i i hi
   rw [Bool.and_eq_true,Bool.and_eq_true] at h2
   obtain⟨⟨h3,h4⟩,h5⟩:=h2
   split at h5
   ·rename_i z hz
    exact⟨i,z,hu,hi,Nat.eq_of_beq_eq_true h3,Nat.le_of_ble_eq_true h4,hz,Nat.eq_of_beq_eq_true h5⟩
   ·cases h5
  ·cases h2
 ·cases h1
theorem A7v {tx:Nat} {x:EV} {u:Value} (h:B1g P tx x esz H=some (m,news)) (ho:B4c news=true) (hR:Rep w0 σ H w) (hx:VR σ x u):∃ us,Src P esz tx u m us w/\All2 (BR σ) news us:=by
 have slT:B4a P tx=true->∃ e',P.underlying tx=some (.slice e'):=fun h=>by
  unfold B4a at h
  split at h
  ·rename_i e' he;exact⟨e',he⟩
  ·cases h
 unfold B1g at h
 split at h
 ·obtain⟨h1,h2⟩:=B9W h
  rw [Bool.and_eq_true] at h1
  obtain⟨e',he⟩:=slT h1.2
  cases h2
  cases hx
  have:=Nat.eq_of_beq_eq_true h1.1
  subst this
  exact⟨[],Src.ofNil w he _,trivial⟩
 ·rename_i s
  obtain⟨h1,h2⟩:=B9W h
  rw [Bool.and_eq_true] at h1
  cases h2
  cases hx
  have:=Nat.eq_of_beq_eq_true h1.1
  subst this
  have hk:P.underlying tx=some .string:=by
   have h3:=h1.2
   unfold A85 at h3
   split at h3
   ·rename_i e;exact e
   ·cases h3
  exact⟨byteCells s,Src.ofString w hk s,All2.map (R:=BR σ) (fun c:UInt8=>EB.l (.int .u8 (Int.ofNat c.toNat))) (fun c=>Value.int .u8 c.toNat) (fun c=>rfl) s.data.toList⟩
 ·rename_i N o m' c
  obtain⟨h1,h2⟩:=B9W h
  obtain⟨e',he⟩:=slT h1
  obtain⟨q,a,cp,hq,hc,rfl⟩:=hx
  cases hb:Nat.beq m' 0 with
  | true=>
   rw [hb] at h2
   cases h2
   have:=Nat.eq_of_beq_eq_true hb
   subst this
   exact⟨[],Src.ofSlice w he a 0 cp [] (by simp) (fun j u hj=>by cases hj) (fun u hu=>by cases hu),trivial⟩
  | false=>
   rw [hb,cond_false] at h2
   have key:∀ {xs:List EB},rowR H N=some xs->a=⟨q.b,q.o+o,none⟩->cond (Nat.ble (Nat.add o (Nat.mul m' esz)) xs.length) (some (m',(xs.drop o).take (Nat.mul m' esz))) none=some (m,news)->∃ us,Src P esz tx (.slice (some a) m' cp) m us w/\All2 (BR σ) news us:=fun hr ha h3=>by
    obtain⟨h4,h5⟩:=B9W h3
    cases h5
    obtain⟨q',cs,k1,k2,k3,k4⟩:=hR.rowR hr o _ (Nat.le_of_ble_eq_true h4)
    rw [hq] at k1
    cases k1
    subst ha
    refine⟨cs,Src.ofSlice w he _ _ cp cs k3 (fun j u hj=>?_) (A6c ho k2),k2⟩
    have:=G9 cs 0 k4 j u hj
    rwa [Nat.zero_add] at this
   cases hr:rowR H N with
   | none=>rw [hr] at h2;cases c<;>cases h2
   | some xs=>
    rw [hr] at h2
    cases c with
    | k c=>exact key hr hc.1 h2
    | j d b=>exact key hr hc.1 h2
    | z d=>cases h2
 ·cases h
theorem B1p {tx:Nat} {x:EV} (h:B1g P tx x esz H=some (m,news)):news.length=m*esz:=by
 unfold B1g at h
 split at h
 ·obtain⟨_,h2⟩:=B9W h
  cases h2
  rw [Nat.zero_mul]
  rfl
 ·obtain⟨h1,h2⟩:=B9W h
  rw [Bool.and_eq_true] at h1
  cases h2
  rw [List.length_map,Nat.eq_of_beq_eq_true h1.1,Nat.mul_one]
 ·rename_i N o m' c
  obtain⟨_,h2⟩:=B9W h
  cases hb:Nat.beq m' 0 with
  | true=>rw [hb] at h2;cases h2;rw [Nat.zero_mul];rfl
  | false=>
   rw [hb,cond_false] at h2
   have key:∀ {xs:List EB},cond (Nat.ble (Nat.add o (Nat.mul m' esz)) xs.length) (some (m',(xs.drop o).take (Nat.mul m' esz))) none=some (m,news)->news.length=m*esz:=fun h3=>by
    obtain⟨h4,h5⟩:=B9W h3
    cases h5
    have:=Nat.le_of_ble_eq_true h4
    rw [List.length_take,List.length_drop]
    exact Nat.min_eq_left (Nat.le_sub_of_add_le (by rw [Nat.add_comm];exact this))
   cases hr:rowR H N with
   | none=>rw [hr] at h2;cases c<;>cases h2
   | some xs=>
    rw [hr] at h2
    cases c with
    | k c=>exact key h2
    | j d b=>exact key h2
    | z d=>cases h2
 ·cases h
theorem A5t:∀ (us cur:List Value) (k:Nat),k+us.length<=cur.length->∀ j:Nat,(C0 cur k us)[j]?=if k<=j/\j<k+us.length then us[j-k]? else cur[j]?
 | [],cur,k,_,j=>by rw [if_neg (by simp)];rfl
 | u::us,cur,k,h,j=>by
  rw [List.length_cons] at h
  show (C0 (cur.set k u) (k+1) us)[j]?=_
  rw [A5t us _ _ (by rw [List.length_set];omega),List.length_cons]
  by_cases e:k=j
  ·subst e
   rw [if_neg (by omega),if_pos (by omega),List.getElem?_set_self (by omega),Nat.sub_self]
   rfl
  ·by_cases c:k+1<=j/\j<k+1+us.length
   ·rw [if_pos c,if_pos (by omega),show j-k=(j-(k+1))+1 by omega,List.getElem?_cons_succ]
   ·rw [if_neg c,if_neg (by omega),List.getElem?_set_ne e]
theorem B3q {i:TypeInfo} {z:Value} {t:Nat} (hA:AppT P t e esz i z) (hz:esz≠0) (hR:Rep w0 σ H w) {cs:List Value} {cap:Nat} (hx:All2 (BR σ) xs cs) (hl:cs.length=n*esz) (h1:n<=cap) (h2:cap<=maxLen) (hN:H.t.get N=none) (ht:∀ j,H'.t.get j=if j=N then some (.c e esz xs) else H.t.get j):
  Ex σ (A3H σ N ⟨w.heap.size,0,cap⟩)/\A3H σ N ⟨w.heap.size,0,cap⟩ N=some ⟨w.heap.size,0,cap⟩/\Rep w0 (A3H σ N ⟨w.heap.size,0,cap⟩) H' (w.drew.alloc (.cells (cs.toArray++Builtin.zeroCells z.cells (cap-n)) e)):=by
 refine⟨O9 hR hN _,if_pos rfl,hR.new ⟨w.heap.size,0,cap⟩ ((Below.refl _ w).drew.alloc (Nat.le_refl _) _) (Nat.le_refl _) hN ht ⟨⟨w.heap.size,0,cap⟩,cs++(Builtin.zeroCells z.cells (cap-n)).toList,cs,if_pos rfl,hR.below.size,?_,fun h=>absurd h hz,fun _=>⟨?_,h2⟩,hx.mono (BR.ex (O9 hR hN _)),fun j v hj=>?_⟩⟩
 ·show (w.drew.alloc _).heap[w.heap.size]?=_
  have:=heap_alloc_new w.drew (.cells (cs.toArray++Builtin.zeroCells z.cells (cap-n)) e)
  have e1:(cs++(Builtin.zeroCells z.cells (cap-n)).toList).toArray=cs.toArray++Builtin.zeroCells z.cells (cap-n):=by apply Array.ext';simp
  rw [e1]
  exact this
 ·have e9:(Builtin.zeroCells z.cells (cap-n)).toList.length=(cap-n)*esz:=by rw [Array.length_toList,size_zeroCells,hA.zs]
  rw [List.length_append,e9,hl,<-Nat.add_mul]
  show (n+(cap-n))*esz=0+cap*esz
  rw [show n+(cap-n)=cap by omega,Nat.zero_add]
 ·rw [Nat.zero_add]
  rw [List.getElem?_append_left]
  ·exact hj
  ·rcases Nat.lt_or_ge j cs.length with h | h
   ·exact h
   ·rw [List.getElem?_eq_none h] at hj;cases hj
theorem A7w (hR:Rep w0 σ H w) (he:H.t.get N=some (.c T sz xs)) {q:Pl} (hq:σ N=some q) {k:Nat} {us:List Value} (hu:All2 (BR σ) news us) (hk:k+news.length<=xs.length) (ht:∀ j,H'.t.get j=if j=N then some (.c T sz (A7l xs k news)) else H.t.get j):
  (∀ j,j<us.length->(w.cell? ⟨q.b,q.o+k+j,none⟩).isSome=true)/\(∀ j,j<us.length->w.frozen? ⟨q.b,q.o+k+j,none⟩=false)/\Rep w0 σ H' (w.setCells q.b (q.o+k) us):=by
 obtain⟨q',cur,cs,k1,k2,k3,k4,k5,k6,k7⟩:=hR.ent N _ he
 rw [hq] at k1
 cases k1
 have hlu:=hu.len
 have hlc:=k6.len
 have hcl:∀ j,j<cs.length->q.o+j<cur.length:=fun j hj=>by
  have:=k7 j _ (List.getElem?_eq_getElem hj)
  rcases Nat.lt_or_ge (q.o+j) cur.length with hh | hh
  ·exact hh
  ·rw [List.getElem?_eq_none hh] at this;cases this
 have hm:∀ j,j<us.length->q.o+k+j<cur.length:=fun j hj=>by
  have:=hcl (k+j) (by omega)
  omega
 refine⟨fun j hj=>(A4K k3 (hm j hj)).1,fun j hj=>(A4K k3 (hm j hj)).2,?_⟩
 have e1:=Z4 q.b (q.o+k) 0 us w
 rw [Nat.add_zero] at e1
 obtain⟨s1,s2,s3,s4,s5,s6⟩:=H8 (q.o+k) us w 0 cur k3
 rw [<-e1] at s1 s2 s3 s4 s5 s6
 rw [Nat.add_zero] at s1
 refine hR.turn he rfl hq (by omega) ⟨s4,s5,s6⟩ (fun b hb _=>s2 b hb) ht ⟨q,_,_,hq,k2,s1,fun hs=>⟨(k4 hs).1,?_⟩,fun hs=>⟨?_,(k5 hs).2⟩,A2T k k6 hu,A6Z q.o us cs cur k (by omega) k7⟩
 ·rw [putAt_len,A4A];exact (k4 hs).2
 ·rw [putAt_len];exact (k5 hs).1
theorem A7x (hR:Rep w0 σ H w) {M:Nat} {H1:Hp} (hz:esz≠0) (he:H.t.get M=some (.c e esz xs)) {q:Pl} (hq:σ M=some q) {k d cp:Nat} {us:List Value} (hu:All2 (BR σ) news us) (hk:k<=xs.length) (hd:k=d*esz) (hcp:cp+d=q.c) (hfit:xs.length+news.length<=q.c*esz)
  (h1:∀ j,H1.t.get j=if j=M then some .d else H.t.get j) (hN:H1.t.get N=none) (ht:∀ j,H'.t.get j=if j=N then some (.c e esz (xs.drop k++news)) else H1.t.get j):
  (∀ j,j<us.length->(w.cell? ⟨q.b,q.o+xs.length+j,none⟩).isSome=true)/\(∀ j,j<us.length->w.frozen? ⟨q.b,q.o+xs.length+j,none⟩=false)/\Ex σ (A3H σ N ⟨q.b,q.o+k,cp⟩)/\Rep w0 (A3H σ N ⟨q.b,q.o+k,cp⟩) H' (w.setCells q.b (q.o+xs.length) us):=by
 obtain⟨q',cur,cs,k1,k2,k3,k4,k5,k6,k7⟩:=hR.ent M _ he
 rw [hq] at k1
 cases k1
 have hlu:=hu.len
 have hlc:=k6.len
 have hcur:=(k5 hz).1
 have hm:∀ j,j<us.length->q.o+xs.length+j<cur.length:=fun j hj=>by omega
 have hR1:Rep w0 σ H1 w:=hR.lose h1
 refine⟨fun j hj=>(A4K k3 (hm j hj)).1,fun j hj=>(A4K k3 (hm j hj)).2,O9 hR1 hN _,?_⟩
 have e1:=Z4 q.b (q.o+xs.length) 0 us w
 rw [Nat.add_zero] at e1
 obtain⟨s1,s2,s3,s4,s5,s6⟩:=H8 (q.o+xs.length) us w 0 cur k3
 rw [<-e1] at s1 s2 s3 s4 s5 s6
 rw [Nat.add_zero] at s1
 have hx:=O9 hR1 hN ⟨q.b,q.o+k,cp⟩
 have hcl:∀ j,j<cs.length->q.o+j<cur.length:=fun j hj=>by
  have:=k7 j _ (List.getElem?_eq_getElem hj)
  rcases Nat.lt_or_ge (q.o+j) cur.length with hh | hh
  ·exact hh
  ·rw [List.getElem?_eq_none hh] at this;cases this
 have hlow:=hR.below.size
 refine hR1.newG ⟨q.b,q.o+k,cp⟩ ⟨s4.trans hR.below.os,s5.trans hR.below.tape,s6.trans hR.below.output,by omega,fun b hb=>(s2 b (by omega)).trans (hR.below.block b hb)⟩ (fun b hb _=>s2 b hb) (fun M' F r hF hl hr=>?_) hN ht ⟨⟨q.b,q.o+k,cp⟩,_,cs.drop k++us,if_pos rfl,k2,s1,fun h=>absurd h hz,fun _=>⟨?_,?_⟩,(All2.append (k6.drop k) hu).mono (BR.ex hx),fun j v hj=>?_⟩
 ·rw [h1] at hF
  by_cases e:M'=M
  ·rw [if_pos e] at hF;cases hF;cases hl
  ·rw [if_neg e] at hF
   exact hR.sep M' M F _ r q e hF he hl rfl hr hq
 ·rw [putAt_len,hcur]
  show q.o+q.c*esz=q.o+k+cp*esz
  rw [hd,<-hcp,Nat.add_mul]
  omega
 ·exact Nat.le_trans (by show cp<=q.c;omega) (k5 hz).2
 ·show (C0 cur (q.o+xs.length) us)[q.o+k+j]?=some v
  rw [A5t _ _ _ (by omega)]
  rw [List.getElem?_append] at hj
  split at hj
  ·rename_i hlt
   rw [List.length_drop] at hlt
   rw [if_neg (by omega)]
   rw [List.getElem?_drop] at hj
   rw [Nat.add_assoc]
   exact k7 _ _ hj
  ·rename_i hge
   rw [List.length_drop] at hge hj
   have hlt:j-(cs.length-k)<us.length:=by
    rcases Nat.lt_or_ge (j-(cs.length-k)) us.length with h | h
    ·exact h
    ·rw [List.getElem?_eq_none h] at hj;cases hj
   rw [if_pos (by omega),show q.o+k+j-(q.o+xs.length)=j-(cs.length-k) by omega]
   exact hj
theorem B6 {b x:Bool} (h:cond b x false=true):b=true/\x=true:=by
 cases b
 ·cases h
 ·exact⟨rfl,h⟩
def A2c (P:Program) (t tx esz m:Nat) (w0:World) (σ:Sg) (w:World) (u u':Value) (us:List Value) (v:EV) (H':Hp):Prop:=Src P esz tx u' m us w->∀ ty,∃ v' w',(Builtin.append_ #[t,tx] ty #[u,u']).run P w=.ok v' w'/\∃ τ,Ex σ τ/\VR τ v v'/\Rep w0 τ H' w'
section
variable {t tx:Nat} {i:TypeInfo} {z:Value} {o:Nat} {q:Pl} {u':Value}
theorem A1V (hA:AppT P t e esz i z) (hz:esz≠0) (hnm:n+m<=20000) (hN:H.t.get N=none) (ht:∀ j,H'.t.get j=if j=N then some (.c e esz xs) else H.t.get j) {ao:Option Addr} {cap:Nat} {olds:List Value} (hR:Rep w0 σ H w)
  (hf:(Builtin.firstCells esz n (.slice ao n cap)).run P w.drew=.ok olds.toArray w.drew) (hol:olds.length=n*esz) (hn:All2 (BR σ) xs (olds++us)) (hc:cap<n+m):A2c P t tx esz m w0 σ w (.slice ao n cap) u' us (.o (.s N 0 (n+m) (.j 0 (n+m)))) H':=fun hS ty=>by
 have hs:=hA.size
 subst hs
 have hm:maxLen=9223372036854775807:=rfl
 have hb:(n+m)*i.bytes<=140737488355328:=Nat.le_trans (Nat.mul_le_mul hnm hA.bytes) (by decide)
 have hrun:=run_append_grow_src (P:=P) w t tx ty e i z hA.ht hA.hi hA.hz ao n cap olds hf u' m us hS hc (by omega) (growslice_fits hc hb)
 have hge:=grownCap_ge w (n+m) cap e
 have hle:=grownCap_le_maxLen w (n+m) cap e (by omega)
 obtain⟨g1,g2,g3⟩:=B3q (N:=N) hA hz hR hn (by rw [List.length_append,hol,hS.newsLen,<-Nat.add_mul]) hge hle hN ht
 exact⟨_,_,hrun,_,g1,⟨_,_,_,g2,⟨rfl,rfl,Nat.le_refl _,hge⟩,rfl⟩,g3⟩
theorem A2d (hA:AppT P t e esz i z) {ao:Option Addr} {cap:Nat} {v:EV} (hR:Rep w0 σ H w) (hle:n<=cap) (hv:VR σ v (.slice ao n cap)):A2c P t tx esz 0 w0 σ w (.slice ao n cap) u' us v H:=fun hS ty=>by
 have hs:=hA.size
 subst hs
 have:us=[]:=List.eq_nil_of_length_eq_zero (by rw [hS.newsLen,Nat.zero_mul])
 subst this
 exact⟨_,_,run_append_nothing w t tx ty e i hA.ht hA.hi _ _ _ hle _ hS,σ,Ex.refl _,hv,hR⟩
theorem A1W (hA:AppT P t e esz i z) {b off cap:Nat} {v:EV} {τ:Sg} (hl:n+m<=cap) (h1:∀ j,j<us.length->(w.cell? ⟨b,off+n*esz+j,none⟩).isSome=true) (h2:∀ j,j<us.length->w.frozen? ⟨b,off+n*esz+j,none⟩=false)
  (hx:Ex σ τ) (hv:VR τ v (.slice (some ⟨b,off,none⟩) (n+m) cap)) (hR:Rep w0 τ H' (w.setCells b (off+n*esz) us)):A2c P t tx esz m w0 σ w (.slice (some ⟨b,off,none⟩) n cap) u' us v H':=fun hS ty=>by
 have hs:=hA.size
 subst hs
 exact⟨_,_,run_append_room_src (P:=P) w t tx ty e i hA.ht hA.hi b off n cap u' m us hS hl h1 h2,τ,hx,hv,hR⟩
theorem Rep.len_le (hR:Rep w0 σ H w) (he:H.t.get N=some (.c T sz xs)) (hq:σ N=some q) (hz:sz≠0):xs.length<=q.c*sz:=by
 obtain⟨q',cur,cs,k1,k2,k3,k4,k5,k6,k7⟩:=hR.ent N _ he
 rw [hq] at k1
 cases k1
 have h1:=(k5 hz).1
 have hlc:=k6.len
 rcases Nat.eq_zero_or_pos xs.length with h | h
 ·omega
 ·have:=k7 (xs.length-1) _ (List.getElem?_eq_getElem (by omega))
  rcases Nat.lt_or_ge (q.o+(xs.length-1)) cur.length with hh | hh
  ·omega
  ·rw [List.getElem?_eq_none hh] at this;cases this
theorem Rep.first (hR:Rep w0 σ H w) (he:H.t.get N=some (.c T sz xs)) (hq:σ N=some q) (hl:o+n*esz<=xs.length) (len cap:Nat):∃ olds,(Builtin.firstCells esz n (.slice (some ⟨q.b,q.o+o,Option.none⟩) len cap)).run P w.drew=.ok olds.toArray w.drew/\olds.length=n*esz/\All2 (BR σ) ((xs.drop o).take (n*esz)) olds:=by
 obtain⟨q',cs,k1,k2,k3,k4⟩:=hR.row he o (n*esz) hl
 rw [hq] at k1
 cases k1
 refine⟨cs,run_firstCells_some w.drew esz n _ len cap cs k3 (fun j v hj=>?_),k3,k2⟩
 have:=G9 cs 0 k4 j v hj
 rwa [Nat.zero_add] at this
theorem B3r (hA:AppT P t e esz i z) (hz:esz≠0) (hnm:n+m<=20000) (hm0:0<m) {c:EC} (he:H.t.get N=some (.c T sz xs)) (h:B56 T sz e esz N o n m c xs news H K=true):∃ v H',K v H'=true/\∀ (w0:World) σ w u u' us,Rep w0 σ H w->VR σ (.o (.s N o n c)) u->All2 (BR σ) news us->A2c P t tx esz m w0 σ w u u' us v H':=by
 have hpos:0<esz:=Nat.pos_of_ne_zero hz
 unfold B56 at h
 split at h
 ·rename_i c
  cases hb:Nat.ble (Nat.add n m) c with
  | true=>
   rw [hb,cond_true] at h
   obtain⟨h1,h2⟩:=B6 h
   rw [X9] at h2
   obtain⟨t',h3,h4⟩:=Tr.setK_ok _ _ _ _ h2
   refine⟨_,_,h3,fun w0 σ w u u' us hR hs hn hS ty=>?_⟩
   obtain⟨q,a,cp,hq,⟨ha,hc1,hc2⟩,rfl⟩:=hs
   subst ha
   subst hc1
   have hln:news.length=m*esz:=by rw [<-hn.len];exact hS.newsLen
   have hl:o+(n+m)*esz<=xs.length:=Nat.le_of_ble_eq_true h1
   rw [Nat.add_mul] at hl
   obtain⟨r1,r2,r3⟩:=A7w (H':=⟨t',H.n⟩) hR he hq (k:=o+n*esz) hn (by rw [hln];omega) h4
   rw [<-Nat.add_assoc] at r1 r2 r3
   exact A1W (v:=.o (.s N o (n+m) (.k cp))) hA (Nat.le_of_ble_eq_true hb) r1 r2 (Ex.refl _) ⟨q,_,_,hq,⟨rfl,rfl,Nat.le_of_ble_eq_true hb⟩,rfl⟩ r3 hS ty
  | false=>
   rw [hb,cond_false] at h
   obtain⟨h1,h2⟩:=B6 h
   obtain⟨N2,H',k1,k2,k3⟩:=A0s h2
   refine⟨_,_,k1,fun w0 σ w u u' us hR hs hn=>?_⟩
   obtain⟨q,a,cp,hq,⟨ha,hc1,hc2⟩,rfl⟩:=hs
   subst ha
   subst hc1
   obtain⟨olds,o1,o2,o3⟩:=hR.first (P:=P) he hq (Nat.le_of_ble_eq_true h1) n cp
   exact A1V hA hz hnm k2 k3 hR o1 o2 (All2.append o3 hn) (by
    rcases Nat.lt_or_ge cp (n+m) with h | h
    ·exact h
    ·rw [show Nat.ble (Nat.add n m) cp=true from Nat.ble_eq_true_of_le h] at hb;cases hb)
 ·rename_i d b
  obtain⟨h1,h2⟩:=B6 h
  rw [Bool.and_eq_true,Bool.and_eq_true] at h1
  have e1:o=d*esz:=Nat.eq_of_beq_eq_true h1.1.1
  have e2:=Nat.eq_of_beq_eq_true h1.1.2
  have e3:=Nat.eq_of_beq_eq_true h1.2
  subst e2
  subst e3
  cases hb:Nat.ble (Nat.add o (Nat.mul (Nat.add n m) sz)) xs.length with
  | true=>
   rw [hb,cond_true,X9] at h2
   obtain⟨t',h3,h4⟩:=Tr.setK_ok _ _ _ _ h2
   refine⟨_,_,h3,fun w0 σ w u u' us hR hs hn hS ty=>?_⟩
   obtain⟨q,a,cp,hq,⟨ha,hc1,hc2,hc3⟩,rfl⟩:=hs
   subst ha
   have hln:news.length=m*sz:=by rw [<-hn.len];exact hS.newsLen
   have hl:o+(n+m)*sz<=xs.length:=Nat.le_of_ble_eq_true hb
   have hle:=hR.len_le he hq hz
   have hcp:n+m<=cp:=by
    have h5:(d+(n+m))*sz<=q.c*sz:=by rw [Nat.add_mul];omega
    have:=Nat.le_of_mul_le_mul_right h5 hpos
    omega
   rw [Nat.add_mul] at hl
   obtain⟨r1,r2,r3⟩:=A7w (H':=⟨t',H.n⟩) hR he hq (k:=o+n*sz) hn (by rw [hln];omega) h4
   rw [<-Nat.add_assoc] at r1 r2 r3
   refine A1W (v:=.o (.s N o (n+m) (.j d (cond (Nat.ble (Nat.add n m) b) b (Nat.add n m))))) hA hcp r1 r2 (Ex.refl _) ⟨q,_,_,hq,⟨rfl,hc1,?_,?_⟩,rfl⟩ r3 hS ty
   ·cases hx:Nat.ble (Nat.add n m) b with
    | true=>exact Nat.le_of_ble_eq_true hx
    | false=>exact Nat.le_refl _
   ·cases hx:Nat.ble (Nat.add n m) b with
    | true=>exact hc3
    | false=>exact hcp
  | false=>
   rw [hb,cond_false] at h2
   obtain⟨h3,h4⟩:=B6 h2
   have e4:o+n*sz=xs.length:=Nat.eq_of_beq_eq_true h3
   obtain⟨t1,h5,h6⟩:=Tr.setK_ok _ _ _ _ h4
   obtain⟨N2,H',k1,k2,k3⟩:=A0s h5
   refine⟨_,_,k1,fun w0 σ w u u' us hR hs hn hS ty=>?_⟩
   obtain⟨q,a,cp,hq,⟨ha,hc1,hc2,hc3⟩,rfl⟩:=hs
   subst ha
   have hln:news.length=m*sz:=by rw [<-hn.len];exact hS.newsLen
   by_cases hroom:n+m<=cp
   ·obtain⟨r1,r2,r3,r4⟩:=A7x (H1:=⟨t1,H.n⟩) hR hz he hq (k:=o) hn (by omega) e1 hc1 (by
     rw [hln,<-e4,e1,<-Nat.add_mul,<-Nat.add_mul]
     exact Nat.mul_le_mul_right _ (by omega)) h6 k2 k3
    rw [<-e4,<-Nat.add_assoc] at r1 r2 r4
    exact A1W (v:=.o (.s N2 0 (n+m) (.j 0 (n+m)))) hA hroom r1 r2 r3 ⟨_,_,cp,if_pos rfl,⟨rfl,rfl,Nat.le_refl _,hroom⟩,rfl⟩ r4 hS ty
   ·obtain⟨olds,o1,o2,o3⟩:=hR.first (P:=P) he hq (Nat.le_of_eq e4) n cp
    rw [List.take_of_length_le (by rw [List.length_drop];omega)] at o3
    exact A1V hA hz hnm k2 k3 (hR.lose h6) o1 o2 (All2.append o3 hn) (by omega) hS ty
 ·rename_i d
  obtain⟨h1,h2⟩:=B6 h
  simp only [Bool.and_eq_true] at h1
  obtain⟨⟨⟨⟨b1,b2⟩,b3⟩,b4⟩,b5⟩:=h1
  have e1:o=d*esz:=Nat.eq_of_beq_eq_true b1
  have e2:=Nat.eq_of_beq_eq_true b2
  have e3:=Nat.eq_of_beq_eq_true b3
  have e4:=Nat.eq_of_beq_eq_true b4
  have e5:=Nat.eq_of_beq_eq_true b5
  subst e2
  subst e3
  subst e5
  obtain⟨t1,h5,h6⟩:=Tr.setK_ok _ _ _ _ h2
  have h5':A4E none T sz news ⟨t1,H.n⟩ (fun N H=>K (.o (.s N 0 (0+m) (.j 0 (0+m)))) H)=true:=by rw [Nat.zero_add];exact h5
  obtain⟨N2,H',k1,k2,k3⟩:=A0s h5'
  refine⟨_,_,k1,fun w0 σ w u u' us hR hs hn hS ty=>?_⟩
  obtain⟨q,a,cp,hq,⟨_,ha,hc1⟩,rfl⟩:=hs
  have hln:news.length=m*sz:=by rw [<-hn.len];exact hS.newsLen
  by_cases hroom:0+m<=cp
  ·rcases hc1 with hc1 | ⟨ha2,hc1⟩
   ·omega
   ·subst ha2
    obtain⟨r1,r2,r3,r4⟩:=A7x (H1:=⟨t1,H.n⟩) (H':=H') (N:=N2) hR hz he hq (k:=o) hn (by omega) e1 hc1 (by
     rw [hln,<-e4,e1,<-Nat.add_mul]
     exact Nat.mul_le_mul_right _ (by omega)) h6 k2 (fun j=>by rw [k3 j,e4,List.drop_length,List.nil_append])
    rw [<-e4] at r1 r2 r4
    have e9:q.o+o+0*sz=q.o+o:=by rw [Nat.zero_mul,Nat.add_zero]
    exact A1W (off:=q.o+o) (v:=.o (.s N2 0 (0+m) (.j 0 (0+m)))) hA hroom (by rw [e9];exact r1) (by rw [e9];exact r2) r3 ⟨_,_,cp,if_pos rfl,⟨rfl,rfl,Nat.le_refl _,hroom⟩,rfl⟩ (by rw [e9];exact r4) hS ty
  ·obtain⟨ab,ao,asp⟩:=a
   exact A1V hA hz hnm k2 k3 (hR.lose h6) (olds:=[]) (run_firstCells_some w.drew sz 0 _ 0 cp [] (by simp) (fun j v hj=>by cases hj)) (by simp) hn (by omega) hS ty
theorem A9A (hA:AppT P t e esz i z) {s:EV} (h:A2b e esz s m news H K=true):∃ v H',K v H'=true/\∀ (w0:World) σ w u u' us,Rep w0 σ H w->VR σ s u->All2 (BR σ) news us->A2c P t tx esz m w0 σ w u u' us v H':=by
 unfold A2b at h
 split at h
 ·rename_i n c
  obtain⟨h1,h2⟩:=B6 h
  rw [Bool.and_eq_true] at h1
  have e1:=Nat.eq_of_beq_eq_true h1.1
  have e2:=Nat.eq_of_beq_eq_true h1.2
  subst e1
  subst e2
  cases hb:Nat.beq m 0 with
  | true=>
   rw [hb] at h2
   have:=Nat.eq_of_beq_eq_true hb
   subst this
   refine⟨_,_,h2,fun w0 σ w u u' us hR hs hn=>?_⟩
   cases hs
   exact A2d hA hR (Nat.le_refl _) rfl
  | false=>
   rw [hb,cond_false] at h2
   obtain⟨h3,h4⟩:=B6 h2
   rw [Bool.and_eq_true,Bool.and_eq_true,Bool.not_eq_true'] at h3
   have hz:esz≠0:=fun e=>by rw [e] at h3;cases h3.2
   have h4':A4E none e esz news H (fun N H=>K (.o (.s N 0 (0+m) (.j 0 (0+m)))) H)=true:=by rw [Nat.zero_add];exact h4
   obtain⟨N2,H',k1,k2,k3⟩:=A0s h4'
   have hm:=Nat.le_of_ble_eq_true h3.1.2
   have hm0:m≠0:=fun e=>by rw [e] at hb;cases hb
   refine⟨_,_,k1,fun w0 σ w u u' us hR hs hn=>?_⟩
   cases hs
   exact A1V hA hz (by omega) k2 k3 hR (olds:=[]) (run_firstCells_none w.drew esz 0 0 0) (by simp) hn (by omega)
 ·rename_i N o n c
  cases hb:Nat.beq m 0 with
  | true=>
   rw [hb] at h
   have:=Nat.eq_of_beq_eq_true hb
   subst this
   refine⟨_,_,h,fun w0 σ w u u' us hR hs hn=>?_⟩
   have hs0:=hs
   obtain⟨q,a,cp,_,hc,rfl⟩:=hs
   refine A2d hA hR ?_ hs0
   cases c with
   | k c=>rw [hc.2.1];exact hc.2.2
   | j d b=>exact Nat.le_trans hc.2.2.1 hc.2.2.2
   | z d=>rw [hc.1];exact Nat.zero_le _
  | false=>
   rw [hb,cond_false] at h
   obtain⟨h1,h2⟩:=B6 h
   rw [Bool.and_eq_true,Bool.and_eq_true,Bool.and_eq_true,Bool.not_eq_true'] at h1
   obtain⟨⟨⟨b1,b2⟩,b3⟩,b4⟩:=h1
   have b2:=Nat.le_of_ble_eq_true b2
   have b4:=Nat.le_of_ble_eq_true b4
   have hz:esz≠0:=fun e=>by rw [e] at b3;cases b3
   have hm0:m≠0:=fun e=>by rw [e] at hb;cases hb
   split at h2
   ·rename_i T sz xs hr
    exact B3r hA hz (by omega) (by omega) (A1T hr) h2
   ·cases h2
 ·cases h
end
end
end Go.Vx
end
