import Derived.WalkKit
import Derived.Below
import Derived.Deep.Draws
import Derived.Laws.Cells
import Derived.Deep.LoopGhost
import Derived.OwnWalk
import Derived.WalkSpells
import Derived.Laws.IdiomStrings
import Derived.Lib.AtoiErrMem
set_option maxRecDepth 100000
set_option maxHeartbeats 40000000
set_option linter.unusedVariables false
set_option linter.unusedSimpArgs false
theorem Go.Vc.nle {a b:Nat} (h:Nat.ble a b=true):a<=b:=Nat.le_of_ble_eq_true h
namespace Go.Vc
open Go
abbrev Fr:=Nat->Value
def upd (f:Fr) (t:Nat) (v:Value):Fr:=fun s=>bif Nat.beq s t then v else f s
def B8f (f:Fr) (d:Option Nat) (v:Value):Fr:=match d with | some t=>upd f t v | none=>f
def ev (f:Fr):Operand->Value
 | .tmp t=>f t
 | .const v=>v
 | .global g=>.pointer (some ⟨g,0,none⟩)
 | .func n=>.func (.func n) #[] #[]
def A32 (v:Value) (K:Value->Prop):Prop:=
 match v with
 | .bool b=>K (.bool b)
 | .int k n=>K (.int k n)
 | .float k n=>K (.float k n)
 | .complex k n m=>K (.complex k n m)
 | .string s=>K (.string s)
 | .pointer a=>K (.pointer a)
 | .slice a n c=>K (.slice a n c)
 | .map r=>K (.map r)
 | .chan r=>K (.chan r)
 | .func f a c=>K (.func f a c)
 | .nilFunc=>K .nilFunc
 | .iface t x=>K (.iface t x)
 | .nilIface=>K .nilIface
 | .agg cs=>K (.agg cs)
 | .tuple cs=>K (.tuple cs)
inductive TD where
 | none
 | int (k:IntKind)
 | str
 | bool
 | slice (e esz:Nat)
 | array (n e esz:Nat) (z:List Value)
 | struct (fs:List (Nat × Nat × Bool)) (z:List Value)
 | one (z:Value)
def TD.size:TD->Nat
 | .none=>0
 | .array _ _ _ z=>z.length
 | .struct _ z=>z.length
 | _=>1
def TD.zero:TD->List Value
 | .none=>[]
 | .int k=>[.int k 0]
 | .str=>[.string ByteArray.empty]
 | .bool=>[.bool false]
 | .slice ..=>[Value.slice Option.none 0 0]
 | .array _ _ _ z=>z
 | .struct _ z=>z
 | .one z=>[z]
def B0b:List (Nat × TD)->Nat->TD
 | [],_=>.none
 | (s,d)::r,t=>bif Nat.beq t s then d else B0b r t
def B0c:List Nat->Nat->Bool
 | [],_=>false
 | s::r,t=>bif Nat.beq t s then true else B0c r t
structure Lay where
 ty:Nat->TD
 fns:Nat->Bool
def cellsAt (w:World) (a:Addr):List Value->Nat->Prop
 | [],_=>True
 | v::r,i=>w.cell? (a.add i)=some v/\cellsAt w a r (i+1)
def Runs (P:Program) (s:Sem Value) (w:World) (k:Value->World->Prop):Prop:=∃ v w',s.run P w=.ok v w'/\k v w'
def Pure (P:Program) (s:Sem Value) (k:Value->Prop):Prop:=∃ v,(∀ w,s.run P w=.ok v w)/\k v
def A7H:IntKind->IntKind->Bool
 | .i8,.i8=>true | .i16,.i16=>true | .i32,.i32=>true | .i64,.i64=>true
 | .u8,.u8=>true | .u16,.u16=>true | .u32,.u32=>true | .u64,.u64=>true
 | _,_=>false
def C8 (a b:ByteArray):Bool:=a.data.toList==b.data.toList
def D9 (a b:ByteArray):Bool:=Op.bytesLess a.data.toList b.data.toList
def B88 (P:Program) (op:BinOp) (T:Nat) (k:IntKind) (a b:Int) (K:Value->Prop):Prop:=
 match op with
 | .add=>K (.int k (k.wrap (a+b)))
 | .sub=>K (.int k (k.wrap (a-b)))
 | .mul=>K (.int k (k.wrap (a*b)))
 | .eql=>K (.bool (a==b))
 | .neq=>K (.bool (a != b))
 | .lss=>K (.bool (decide (a<b)))
 | .leq=>K (.bool (decide (a<=b)))
 | .gtr=>K (.bool (decide (b<a)))
 | .geq=>K (.bool (decide (b<=a)))
 | .quo=>b≠0/\K (.int k (k.wrap (a.tdiv b)))
 | .rem=>b≠0/\K (.int k (a.tmod b))
 | .and=>K (.int k (bits .and k a b))
 | .or=>K (.int k (bits .or k a b))
 | .xor=>K (.int k (bits .xor k a b))
 | _=>Pure P (binOp op T (.int k a) (.int k b)) K
def vStr (P:Program) (op:BinOp) (T:Nat) (a b:ByteArray) (K:Value->Prop):Prop:=
 match op with
 | .add=>a.size+b.size<=9223372036854775807/\K (.string (a++b))
 | .eql=>K (.bool (C8 a b))
 | .neq=>K (.bool (!C8 a b))
 | .lss=>K (.bool (D9 a b))
 | .leq=>K (.bool (D9 a b||C8 a b))
 | .gtr=>K (.bool (!(D9 a b||C8 a b)))
 | .geq=>K (.bool (!D9 a b))
 | _=>Pure P (binOp op T (.string a) (.string b)) K
def B0d:BinOp->Bool
 | .shl=>true
 | .shr=>true
 | _=>false
def B49 (P:Program) (op:BinOp) (T:Nat) (k yk:IntKind) (a b:Int) (K:Value->Prop):Prop:=
 match op with
 | .shl=>(0<=b/\b<=k.bits)/\K (.int k (k.wrap (a*2 ^ b.toNat)))
 | .shr=>(0<=b/\b<=k.bits)/\K (.int k (a / 2 ^ b.toNat))
 | _=>Pure P (binOp op T (.int k a) (.int yk b)) K
def TD.isBool:TD->Bool
 | .bool=>true
 | _=>false
def B8g (P:Program) (isB:Bool) (op:BinOp) (T:Nat) (ox oy:Operand) (x y:Value) (K:Value->Prop):Prop:=
 match x,y with
 | .int k a,.int k' b=>
  bif B0d op then B49 P op T k k' a b K
  else bif A7H k k' then B88 P op T k a b K else False
 | .string a,.string b=>vStr P op T a b K
 | .bool a,.bool b=>cond isB
  (match op with
  | .eql=>K (.bool (a==b))
  | .neq=>K (.bool (!(a==b)))
  | _=>False) False
 | x,y=>Pure P (do eqGuard op T ox oy x y;binOp op T x y) K
def vUn (P:Program) (op:UnOp) (x:Value) (K:Value->Prop):Prop:=
 match op,x with
 | .not,.bool b=>K (.bool (!b))
 | .neg,.int k n=>K (.int k (k.wrap (0-n)))
 | op,x=>Pure P (Op.unary op x) K
def B0e (v:Value) (K:List Value->Prop):Prop:=
 match v with
 | .agg cs=>K cs.toList
 | .bool b=>K [.bool b]
 | .int k n=>K [.int k n]
 | .float k n=>K [.float k n]
 | .complex k n m=>K [.complex k n m]
 | .string s=>K [.string s]
 | .pointer a=>K [.pointer a]
 | .slice a n c=>K [.slice a n c]
 | .map r=>K [.map r]
 | .chan r=>K [.chan r]
 | .func f a c=>K [.func f a c]
 | .nilFunc=>K [.nilFunc]
 | .iface t x=>K [.iface t x]
 | .nilIface=>K [.nilIface]
 | .tuple cs=>K [.tuple cs]
def D3:List Value->Nat->List Value->List Value
 | cs,_,[]=>cs
 | cs,i,v::r=>D3 (cs.set i v) (i+1) r
def B0f (fs:List (Nat × Nat × Bool)):List Value->List (Nat × Value)->Option (List Value)
 | cs,[]=>some cs
 | cs,(i,v)::r=>match fs[i]? with
  | some (off,size,_)=>bif Nat.beq v.cells.size size&&Nat.ble (off+size) cs.length then B0f fs (D3 cs off v.cells.toList) r else none
  | none=>none
def A25 (esz:Nat):List Value->List (Nat × Value)->Option (List Value)
 | cs,[]=>some cs
 | cs,(i,v)::r=>bif Nat.beq v.cells.size esz&&Nat.ble (i*esz+esz) cs.length then A25 esz (D3 cs (i*esz) v.cells.toList) r else none
def A1D (z:List Value):Nat->List Value
 | 0=>[]
 | n+1=>z++A1D z n
def B5e {α:Type}:List α->Bool
 | []=>true
 | _::_=>false
def A7I (esz:Nat):Nat->List (Nat × Value)->Option (List Value)
 | _,[]=>some []
 | i,(j,v)::r=>bif Nat.beq j i&&Nat.beq v.cells.size esz then (match A7I esz (i+1) r with | some t=>some (v.cells.toList++t) | none=>none) else none
def B3X (esz n:Nat) (z:List Value) (l:List (Nat × Value)):Option (List Value):=
 bif Nat.beq l.length n then (match A7I esz 0 l with | some cs=>some cs | none=>A25 esz (A1D z n) l) else A25 esz (A1D z n) l
def B66 (f:Fr):List (Nat × Operand)->(List (Nat × Value)->Prop)->Prop
 | [],K=>K []
 | (i,x)::r,K=>A32 (ev f x) fun v=>B66 f r fun l=>K ((i,v)::l)
def B5A (f:Fr):List Operand->(List Value->Prop)->Prop
 | [],K=>K []
 | x::r,K=>A32 (ev f x) fun v=>B5A f r fun l=>K (v::l)
def New (w:World) (cs:List Value) (T:Nat) (g:Nat) (w':World):Prop:=g=w.heap.size/\w'=w.alloc (.cells cs.toArray T)
def stored:World->Addr->List Value->Nat->World
 | w,_,[],_=>w
 | w,a,v::r,i=>stored (w.setCell (a.add i) v) a r (i+1)
def E2 (w:World) (a:Addr) (cs:List Value) (w':World):Prop:=w'=stored w a cs 0
def G5 (w:World) (a:Addr):List Value->Nat->Prop
 | [],_=>True
 | v::r,i=>(∃ u,w.cell? (a.add i)=some u)/\w.frozen? (a.add i)=false/\v.oneCell'=true/\G5 w a r (i+1)
structure CallVc (P:Program) (n:Nat) (args:List Value) (w:World) (K:Value->World->Prop):Prop where
 calls:Calls P n args.toArray w (fun e w'=>∃ v,e=.returned v/\K v w')
structure ExtVc (P:Program) (n:Nat) (args:List Value) (w:World) (K:Value->World->Prop):Prop where
 runs:∃ v w',(callFunc n args.toArray).run P w=.ok (.value v) w'/\K v w'
def A9L (P:Program) (L:Lay) (n:Nat) (args:List Value) (w:World) (K:Value->World->Prop):Prop:=
 cond (L.fns n) (CallVc P n args w K) (ExtVc P n args w K)
def B8Y (a:Addr) (n:Nat) (K:Value->Prop):Prop:=
 match a,n with
 | ⟨b,o,s⟩,0=>K (.pointer (some ⟨b,o,s⟩))
 | ⟨b,o,_⟩,n=>K (.pointer (some ⟨b,o+n,none⟩))
def Z7 (f:Fr) (d:Nat):Option Operand->Option Int
 | none=>some d
 | some x=>match ev f x with | .int _ n=>some n | _=>none
def B0g (s:ByteArray) (l h:Option Int) (K:Value->Prop):Prop:=
 match l,h with
 | some l,some h=>(0<=l/\l<=h/\h<=s.size)/\K (.string (s.extract l.toNat h.toNat))
 | _,_=>False
def A26 (a:Option Addr) (cap esz:Nat) (l h m:Option Int) (K:Value->Prop):Prop:=
 match l,h,m with
 | some l,some h,some m=>(0<=l/\l<=h/\h<=m/\m<=cap)/\K (.slice (if m=l then a else a.map (·.add (l.toNat*esz))) (h-l).toNat (m-l).toNat)
 | _,_,_=>False
def A40:Builtin->Bool
 | .len=>true
 | .min=>true
 | .max=>true
 | .real=>true
 | .imag=>true
 | .complex=>true
 | .cap=>true
 | _=>false
def A8H (P:Program) (L:Lay) (b:Builtin) (ats:Array Nat) (T:Nat) (cs:Array Bool) (xs:List Value) (K:Value->Prop):Prop:=
 match b,ats.toList,xs with
 | .len,[t],[x]=>match L.ty t,x with
  | .str,.string s=>K (.int .i64 s.size)
  | .slice ..,.slice _ n _=>K (.int .i64 n)
  | .array n ..,_=>K (.int .i64 n)
  | _,x=>Pure P (Builtin.len_ ats T #[x]) K
 | .min,_,[.int k x,.int _ y]=>K (.int k (if y<x then y else x))
 | .max,_,[.int k x,.int _ y]=>K (.int k (if y > x then y else x))
 | .real,_,[.complex k re _]=>K (.float k re)
 | .imag,_,[.complex k _ im]=>K (.float k im)
 | .complex,_,[.float .f64 re,.float .f64 im]=>K (.complex .f64 re im)
 | b,_,xs=>∃ v,(∀ w,(builtin b ats T cs xs.toArray).run P w=.ok (.value v) w)/\K v
noncomputable def pOp (P:Program) (L:Lay) (T:Nat) (op:Op) (f:Fr) (K:Value->Prop):Prop:=
 match op with
 | .move x=>A32 (ev f x) K
 | .assign x=>A32 (ev f x) K
 | .pick c x y=>match ev f c with
  | .bool b=>Bool.rec (motive:=fun _=>Prop) (A32 (ev f y) K) (A32 (ev f x) K) b
  | _=>False
 | .binOp op t x y _=>B8g P (L.ty t).isBool op t x y (ev f x) (ev f y) K
 | .unOp op _ x=>vUn P op (ev f x) K
 | .convert s d x=>match L.ty s,L.ty d,ev f x with
  | .int _,.int k',.int _ n=>K (.int k' (k'.wrap n))
  | .str,.str,.string s=>K (.string s)
  | _,_,x=>Pure P (convert s d x) K
 | .fieldAddr t x i=>match L.ty t,ev f x with
  | .struct fs _,.pointer (some a)=>match fs[i]? with
   | some (off,size,_)=>cond (Nat.beq size 0) False (B8Y a off K)
   | none=>False
  | _,_=>False
 | .field t x i=>match L.ty t,ev f x with
  | .struct fs _,.agg cs=>match fs[i]? with
   | some (off,size,g)=>cond g (K (.agg (cs.extract off (off+size)))) (match cs[off]? with
    | some v=>A32 v K
    | none=>False)
   | none=>False
  | _,_=>False
 | .build t ps=>match L.ty t with
  | .struct fs z=>B66 f ps.toList fun l=>match B0f fs z l with
   | some cs=>K (.agg cs.toArray)
   | none=>False
  | .array _ _ esz z=>B66 f ps.toList fun l=>match A25 esz z l with
   | some cs=>K (.agg cs.toArray)
   | none=>False
  | _=>False
 | .index t x i=>match L.ty t,ev f x,ev f i with
  | .str,.string s,.int _ n=>(0<=n/\n<s.size)/\K (.int .u8 ((s.data.toList.getD n.toNat 0).toNat:Int))
  | _,x,i=>Pure P (Instr.index t x i) K
 | .indexAddr t x i=>match L.ty t,ev f x,ev f i with
  | .slice _ esz,.slice (some a) len _,.int _ n=>(0<=n/\n<len)/\K (.pointer (some (a.add (n.toNat*esz))))
  | .array len _ esz _,.pointer (some a),.int _ n=>(0<=n/\n<len)/\K (.pointer (some (a.add (n.toNat*esz))))
  | _,_,_=>False
 | .slice t x lo hi mx=>match L.ty t,ev f x with
  | .str,.string s=>match mx with
   | none=>B0g s (Z7 f 0 lo) (Z7 f s.size hi) K
   | some _=>False
  | .slice _ esz,.slice a len cap=>match mx with
   | none=>A26 a cap esz (Z7 f 0 lo) (Z7 f len hi) (some cap) K
   | some m=>match lo,hi with
    | some l,some h=>A26 a cap esz (Z7 f 0 (some l)) (Z7 f len (some h)) (Z7 f cap (some m)) K
    | _,_=>False
  | .array n _ esz _,.pointer (some a)=>match mx with
   | none=>A26 (some a) n esz (Z7 f 0 lo) (Z7 f n hi) (some n) K
   | some _=>False
  | _,_=>False
 | .extract x i=>match ev f x with
  | .tuple vs=>match vs.toList[i]? with
   | some v=>A32 v K
   | none=>False
  | _=>False
 | .makeFunc fn fs cs=>B5A f fs.toList fun fs=>B5A f cs.toList fun cs=>K (.func fn fs.toArray cs.toArray)
 | .nilCheck x=>match ev f x with
  | .pointer (some a)=>K (.pointer (some a))
  | .func (.func n) fs cs=>K (.func (.func n) fs cs)
  | _=>False
 | .call c=>match c.callee with
  | .builtin b=>cond (A40 b) (B5A f c.args.toList fun xs=>A8H P L b c.argTypes T (c.args.map fun | .const _=>true | _=>false) xs K) False
  | _=>False
 | .makeInterface t x=>Pure P (Instr.makeInterface t (ev f x)) K
 | _=>False
noncomputable def vOp (P:Program) (L:Lay) (T:Nat) (op:Op) (f:Fr) (w:World) (K:Value->World->Prop):Prop:=
 match op with
 | .load t x=>match L.ty t,ev f x with
  | .none,_=>False
  | .array _ _ _ z,.pointer (some a)=>∃ cs:List Value,cs.length=z.length/\cellsAt w a cs 0/\K (.agg cs.toArray) w
  | .struct _ z,.pointer (some a)=>∃ cs:List Value,cs.length=z.length/\cellsAt w a cs 0/\K (.agg cs.toArray) w
  | _,.pointer (some a)=>∃ v,w.cell? a=some v/\K v w
  | _,_=>False
 | .store t x y=>match L.ty t,ev f x with
  | .none,_=>False
  | d,.pointer (some a)=>B0e (ev f y) fun cs=>cond (Nat.beq cs.length d.size) (G5 w a cs 0/\∀ w',E2 w a cs w'->K undef w') False
  | _,_=>False
 | .alloc t=>match L.ty t with
  | .none=>False
  | d=>∀ g w',New w d.zero t g w'->K (.pointer (some ⟨g,0,none⟩)) w'
 | .box t x=>B0e (ev f x) fun cs=>∀ g w',New w cs t g w'->K (.pointer (some ⟨g,0,none⟩)) w'
 | .buildSlice t n ps=>match L.ty t with
  | .slice e esz=>cond (Nat.beq n 0&&B5e ps.toList) (∀ g w',New w [] e g w'->K (.slice (some ⟨g,0,none⟩) 0 0) w') (cond (Nat.ble (n*esz) 16777216&&!Nat.beq esz 0&&!Nat.beq n 0) (
    match L.ty e with
    | .none=>False
    | d=>cond (Nat.beq d.size esz)
     (B66 f ps.toList fun l=>match B3X esz n d.zero l with
     | some cs=>∀ g w',New w cs e g w'->K (.slice (some ⟨g,0,none⟩) n n) w'
     | none=>False) False)
   False)
  | _=>False
 | .call c=>match c.callee with
  | .builtin b=>B5A f c.args.toList fun xs=>cond (A40 b)
   (A8H P L b c.argTypes T (c.args.map fun | .const _=>true | _=>false) xs fun v=>K v w)
   (∃ v w',(builtin b c.argTypes T (c.args.map fun | .const _=>true | _=>false) xs.toArray).run P w=.ok (.value v) w'/\K v w')
  | .value fo=>match ev f fo with
   | .func (.func n) first captured=>B5A f c.args.toList fun xs=>match first.toList,captured.toList with
    | [],[]=>A9L P L n xs w K
    | fs,cs=>A9L P L n (fs++xs++cs) w K
   | _=>False
  | .invoke ..=>False
 | .convert s d x=>match L.ty s,L.ty d,ev f x with
  | .int _,.int k',.int _ n=>K (.int k' (k'.wrap n)) w
  | .str,.str,.string s=>K (.string s) w
  | _,_,x=>Runs P (convert s d x) w K
 | .makeMap t r=>Runs P (Instr.makeMap t (r.map (ev f))) w K
 | .makeSlice t l c=>Runs P (Instr.makeSlice t (ev f l) (ev f c)) w K
 | .lookup t x i ok=>Runs P (Instr.lookup t (ev f x) (ev f i) ok) w K
 | .mapUpdate t m k x=>∃ w',(Instr.mapUpdate t (ev f m) (ev f k) (ev f x)).run P w=.ok () w'/\K undef w'
 | .insert t m k x=>∃ w',(Instr.mapUpdate t (ev f m) (ev f k) (ev f x)).run P w=.ok () w'/\K undef w'
 | .range t x=>Runs P (Instr.range t (ev f x)) w K
 | .next it s=>Runs P (Instr.next (ev f it) s T) w K
 | .entry it=>Runs P (Instr.entry (ev f it)) w K
 | op=>pOp P L T op f fun v=>K v w
def R1 (ops0:List Oper) (f:Fr) (j:Nat):Option (Nat × Bool):=
 match ops0[j]? with
 | some o=>match o.dst with
  | some t=>match f t with
   | .bool b=>some (t,b)
   | _=>none
  | none=>none
 | none=>none
def A15 (f:Fr) (d:Option Nat) (v:Value) (K:Fr->Prop):Prop:=match d with | some t=>K (upd f t v) | none=>K f
noncomputable def B0h (P:Program) (L:Lay) (ops0:List Oper) (l:List Oper):Fr->World->(Fr->World->Prop)->Prop:=
 List.rec (motive:=fun _=>Fr->World->(Fr->World->Prop)->Prop) (fun f w K=>K f w)
  (fun o _ ih f w K=>match o with
   | ⟨dst,op,T,_,_,none⟩=>vOp P L T op f w fun v w'=>A15 f dst v fun f'=>ih f' w' K
   | ⟨dst,op,T,_,_,some (j,want)⟩=>match R1 ops0 f j with
    | some (t,b)=>Bool.rec (motive:=fun _=>Prop)
      (cond want (A15 (upd f t (.bool false)) dst undef fun f'=>ih f' w K)
       (vOp P L T op (upd f t (.bool false)) w fun v w'=>A15 (upd f t (.bool false)) dst v fun f'=>ih f' w' K))
      (cond want (vOp P L T op (upd f t (.bool true)) w fun v w'=>A15 (upd f t (.bool true)) dst v fun f'=>ih f' w' K)
       (A15 (upd f t (.bool true)) dst undef fun f'=>ih f' w K)) b
    | none=>A15 f dst undef fun f'=>ih f' w K) l
def lk:List (Nat × Value)->Nat->Option Value
 | [],_=>none
 | (s,v)::r,t=>bif Nat.beq t s then some v else lk r t
def mk (l:List (Nat × Value)) (u:Fr):Fr:=fun t=>match lk l t with | some v=>v | none=>u t
def B5B (f:Fr):List (Nat × Value)->Prop
 | []=>True
 | (t,v)::r=>f t=v/\B5B f r
def Agree (n:Nat) (a:Act) (f:Fr):Prop:=a.defers=[]/\a.tmps.size=n/\∀ t,a.tmps.getD t undef=f t
def A0x (n:Nat):List Oper->Bool
 | []=>true
 | o::r=>(match o.dst with | some t=>Nat.blt t n | none=>true)&&A0x n r
structure Drawn (P:Program) (id:Nat) (ops:Array Oper) (f:Fr) (w:World) (K:Fr->World->Prop):Prop where
 wp:∀ (n:Nat) (a:Act),A0x n ops.toList=true->Agree n a f->(Code.region id ops true).wp P (fun e a' w'=>e=.normal/\∃ f',Agree n a' f'/\K f' w') a w
def B8h (b:Fr->World->(Exit->Fr->World->Prop)->Prop) (K:Exit->Fr->World->Prop) (e:Exit) (f:Fr) (w:World):Prop:=
 match e with
 | .normal=>b f w K
 | e=>K e f w
def B7E (id:Nat) (K:Exit->Fr->World->Prop) (e:Exit) (f:Fr) (w:World):Prop:=
 match e with
 | .exit i=>cond (Nat.beq i id) (K .normal f w) (K (.exit i) f w)
 | e=>K e f w
def B8i {α:Type} (st:α->List (Nat × Value)) (inv:α->World->Prop) (μ:α->World->Nat) (x:α) (w0:World) (K:Exit->Fr->World->Prop) (e:Exit) (f:Fr) (w:World):Prop:=
 match e with
 | .normal=>∃ x',B5B f (st x')/\inv x' w/\μ x' w<μ x w0
 | e=>K e f w
noncomputable def A27 (P:Program) (L:Lay) (c:Code):Fr->World->(Exit->Fr->World->Prop)->Prop:=
 Code.rec (motive:=fun _=>Fr->World->(Exit->Fr->World->Prop)->Prop)
  (fun f w K=>K .normal f w)
  (fun id ops d f w K=>cond d (Drawn P id ops f w (K .normal)) (B0h P L ops.toList ops.toList f w (K .normal)))
  (fun _ _ iha ihb f w K=>iha f w (B8h ihb K))
  (fun c _ _ iha ihb f w K=>match ev f c with
   | .bool t=>Bool.rec (motive:=fun _=>Prop) (ihb f w K) (iha f w K) t
   | _=>False)
  (fun id _ ih f w K=>ih f w (B7E id K))
  (fun _ ih f w K=>∃ (α:Type) (st:α->List (Nat × Value)) (inv:α->World->Prop) (μ:α->World->Nat) (x0:α),
   B5B f (st x0)/\inv x0 w/\∀ (x:α) (w':World) (u:Fr),inv x w'->ih (mk (st x) u) w' (B8i st inv μ x w' K))
  (fun _ _ _ _ _ _ _ _ _=>False)
  (fun id f w K=>K (.exit id) f w)
  (fun _ _ _ _ _=>False)
  (fun _ f w K=>K .normal f w)
  (fun _ _ _ _=>False)
  (fun f w K=>K .ret f w)
  (fun _ _ _ _=>False) c
def B0i (L:Lay) (f:Fr) (w:World):List ResultVar->List Value->(List Value->Prop)->Prop
 | [],vs,K=>K vs.reverse
 | .tmp t::r,vs,K=>A32 (f t) fun v=>B0i L f w r (v::vs) K
 | .cell a t::r,vs,K=>match L.ty t,f a with
  | .none,_=>False
  | .array _ _ _ z,.pointer (some p)=>∃ cs:List Value,cs.length=z.length/\cellsAt w p cs 0/\B0i L f w r (.agg cs.toArray::vs) K
  | .struct _ z,.pointer (some p)=>∃ cs:List Value,cs.length=z.length/\cellsAt w p cs 0/\B0i L f w r (.agg cs.toArray::vs) K
  | _,.pointer (some p)=>∃ v,w.cell? p=some v/\B0i L f w r (v::vs) K
  | _,_=>False
def B0j:List Value->Value
 | [v]=>v
 | vs=>.tuple vs.toArray
def fnK (L:Lay) (rs:Array ResultVar) (R:Ending->World->Prop) (e:Exit) (f:Fr) (w:World):Prop:=
 match e with
 | .normal=>B0i L f w rs.toList [] fun vs=>R (.returned (B0j vs)) w
 | .ret=>B0i L f w rs.toList [] fun vs=>R (.returned (B0j vs)) w
 | _=>False
def A7J (args:List Value):Fr:=fun t=>args.getD t undef
def R2 (n:Nat):Code->Bool
 | .region _ ops _=>A0x n ops.toList
 | .seq a b=>R2 n a&&R2 n b
 | .cond _ a b=>R2 n a&&R2 n b
 | .block _ b=>R2 n b
 | .loop b=>R2 n b
 | _=>true
end Go.Vc
section
namespace Go.Vc
open Go
def szV (P:Program) (t n:Nat) (v:Value):Prop:=(P.info? t).map (fun i=>(i.size,i.zero))=some (n,some v)
def szN (P:Program) (t n:Nat):Prop:=(P.info? t).map (fun i=>i.size)=some n
def A0C:TypeDesc->Bool
 | .struct _=>true
 | .array ..=>true
 | _=>false
def B8Z (P:Program) (F:Array Field) (fs:List (Nat × Nat × Bool)):Prop:=
 F.toList.map (fun fl=>(fl.offset,(P.info? fl.type).map (fun i=>i.size),(P.underlying fl.type).map A0C))=fs.map fun x=>(x.1,some x.2.1,some x.2.2)
theorem I2 {P:Program} {t n:Nat} {v:Value} (h:(P.info? t).map (fun i=>(i.size,i.zero))=some (n,some v)):szV P t n v:=h
theorem A3z {P:Program} {t n:Nat} (h:(P.info? t).map (fun i=>i.size)=some n):szN P t n:=h
theorem fs_ {P:Program} {F:Array Field} {fs:List (Nat × Nat × Bool)}
  (h:F.toList.map (fun fl=>(fl.offset,(P.info? fl.type).map (fun i=>i.size),(P.underlying fl.type).map A0C))=fs.map fun x=>(x.1,some x.2.1,some x.2.2)):B8Z P F fs:=h
def B8a (P:Program) (t:Nat):TD->Prop
 | .none=>True
 | .int k=>P.underlying t=some (.int k)/\szV P t 1 (.int k 0)
 | .str=>P.underlying t=some .string/\szV P t 1 (.string ByteArray.empty)
 | .bool=>P.underlying t=some .bool/\szV P t 1 (.bool false)
 | .slice e esz=>P.underlying t=some (.slice e)/\szV P t 1 (.slice none 0 0)/\szN P e esz
 | .array n e esz z=>P.underlying t=some (.array n e)/\szV P t z.length (.agg z.toArray)/\szN P e esz
 | .struct fs z=>(∃ F,P.underlying t=some (.struct F)/\B8Z P F fs)/\szV P t z.length (.agg z.toArray)
 | .one z=>(∃ d,P.underlying t=some d/\A0C d=false)/\szV P t 1 z/\z.cells=#[z]
def B5f (P:Program):List (Nat × TD)->Prop
 | []=>True
 | (t,d)::r=>B8a P t d/\B5f P r
def B89 (P:Program) (n:Nat):Prop:=∀ (args:Array Value) (w:World),(callFunc n args).run P w=.ok (.enter n args) w
def B5g (P:Program):List Nat->Prop
 | []=>True
 | n::r=>B89 P n/\B5g P r
structure Lay.Ok (P:Program) (L:Lay):Prop where
 ty:∀ t,B8a P t (L.ty t)
 fns:∀ n,L.fns n=true->B89 P n
theorem lay_ok {P:Program} {tys:List (Nat × TD)} {fl:List Nat} (h:B5f P tys) (g:B5g P fl):Lay.Ok P ⟨B0b tys,B0c fl⟩:=by
 constructor
 ·intro t
  show B8a P t (B0b tys t)
  induction tys with
  | nil=>trivial
  | cons x r ih=>
   obtain⟨s,d⟩:=x
   simp only [B0b]
   cases hb:Nat.beq t s
   ·exact ih h.2
   ·have:=Nat.eq_of_beq_eq_true hb
    subst this
    exact h.1
 ·intro n
  show B0c fl n=true->_
  induction fl with
  | nil=>intro h;cases h
  | cons x r ih=>
   simp only [B0c]
   cases hb:Nat.beq n x
   ·exact ih g.2
   ·have:=Nat.eq_of_beq_eq_true hb
    subst this
    exact fun _=>g.1
section
variable {P:Program} {L:Lay}
theorem A28 {t n:Nat} {v:Value} (h:szV P t n v):szN P t n:=by
 unfold szV at h
 unfold szN
 cases hi:P.info? t with
 | none=>rw [hi] at h;cases h
 | some i=>rw [hi] at h;simp at h;simp [h.1]
theorem K4 {t n:Nat} (h:szN P t n) (w:World):(sizeOf t).run P w=.ok n w:=by
 unfold szN at h
 cases hi:P.info? t with
 | none=>rw [hi] at h;cases h
 | some i=>rw [hi] at h;simp at h;simp [sizeOf,typeInfo,hi,h]
theorem A2n {t n:Nat} {v:Value} (h:szV P t n v) (w:World):(zeroValue t).run P w=.ok v w:=by
 unfold szV at h
 cases hi:P.info? t with
 | none=>rw [hi] at h;cases h
 | some i=>rw [hi] at h;simp at h;simp [zeroValue,typeInfo,hi,h.2]
theorem A41 {t:Nat} {d:TypeDesc} (h:P.underlying t=some d) (w:World):(isAgg t).run P w=.ok (A0C d) w:=by
 simp only [isAgg,Sem.run_bind,run_underlying h,Result.andThen_ok]
 cases d<;>rfl
def Goes (P:Program) (K:Value->World->Prop):Result Next->Prop
 | .ok (.value v) w=>K v w
 | .ok .skip w=>K undef w
 | .ok (.enter f args) w=>Calls P f args w (fun e w'=>∃ v,e=.returned v/\K v w')
 | _=>False
theorem Goes.upon {K:Value->World->Prop} {r:Result Next} (h:Goes P K r) (o:Oper) (a:Act) (next:Act->World->Prop) (Q:Exit->Act->World->Prop)
  (hn:∀ v w,K v w->next (a.put o.dst v) w):o.upon P a next Q r:=by
 cases r with
 | halt x w=>exact h.elim
 | ok n w=>
  cases n<;>first
   | exact hn _ _ h
   | exact h.elim
   | exact Calls.mono h (fun e w' ⟨v,he,hk⟩=>by subst he;exact hn _ _ hk)
theorem A2o (v:Value) (K:Value->Prop):A32 v K=K v:=by cases v<;>rfl
theorem A7K (f:Fr):∀ (l:List Operand) (K:List Value->Prop),B5A f l K=K (l.map (ev f))
 | [],_=>rfl
 | x::r,K=>by simp only [B5A,A2o,A7K f r,List.map_cons]
theorem A7L (f:Fr):∀ (l:List (Nat × Operand)) (K:List (Nat × Value)->Prop),B66 f l K=K (l.map fun p=>(p.1,ev f p.2))
 | [],_=>rfl
 | (i,x)::r,K=>by simp only [B66,A2o,A7L f r,List.map_cons]
theorem A9M {k k':IntKind} (h:A7H k k'=true):k=k':=by cases k<;>cases k'<;>first | rfl | cases h
theorem B0k (v:Value) (K:List Value->Prop):B0e v K=K v.cells.toList:=by cases v<;>rfl
theorem B5h (a:Addr) (n:Nat) (K:Value->Prop):B8Y a n K=K (.pointer (some (a.add n))):=by
 obtain⟨b,o,s⟩:=a
 cases n with
 | zero=>simp [B8Y,Addr.add]
 | succ n=>simp [B8Y,Addr.add]
theorem V4 (s:ByteArray):s.toList=s.data.toList:=ByteArray.toList_eq s
theorem A9N (op:BinOp) (T:Nat) (k:IntKind) (a b:Int) (K:Value->Prop) (h:B88 P op T k a b K):∃ v,(∀ w,(binOp op T (.int k a) (.int k b)).run P w=.ok v w)/\K v:=by
 cases op
 case quo=>exact⟨_,fun w=>by simp only [binOp_quo,Op.intDiv,if_neg h.1];rfl,h.2⟩
 case rem=>exact⟨_,fun w=>by simp only [binOp_rem,Op.intDiv,if_neg h.1];rfl,h.2⟩
 case shl=>exact h
 case shr=>exact h
 case andNot=>exact h
 case add=>exact⟨_,fun w=>by rw [binOp_add];rfl,h⟩
 case sub=>exact⟨_,fun w=>by rw [binOp_sub];rfl,h⟩
 case mul=>exact⟨_,fun w=>by rw [binOp_mul];rfl,h⟩
 case eql=>exact⟨_,fun w=>by rw [binOp_eql];rfl,h⟩
 case neq=>exact⟨_,fun w=>by rw [binOp_neq];rfl,h⟩
 case lss=>exact⟨_,fun w=>by rw [binOp_lss];rfl,h⟩
 case leq=>exact⟨_,fun w=>by rw [binOp_leq];rfl,h⟩
 case gtr=>exact⟨_,fun w=>by rw [binOp_gtr];rfl,h⟩
 case geq=>exact⟨_,fun w=>by rw [binOp_geq];rfl,h⟩
 case and=>exact⟨_,fun w=>by rw [binOp_and,intBits_and];rfl,h⟩
 case or=>exact⟨_,fun w=>by rw [binOp_or,intBits_or];rfl,h⟩
 case xor=>exact⟨_,fun w=>by rw [binOp_xor,intBits_xor];rfl,h⟩
theorem R3 (op:BinOp) (T:Nat) (a b:ByteArray):binOp op T (.string a) (.string b)=Op.stringOp op a b:=by cases op<;>rfl
theorem A9O (op:BinOp) (T:Nat) (a b:ByteArray) (K:Value->Prop) (h:vStr P op T a b K):∃ v,(∀ w,(binOp op T (.string a) (.string b)).run P w=.ok v w)/\K v:=by
 cases op
 case add=>exact⟨_,fun w=>by rw [R3];simp only [Op.stringOp];rw [if_neg (by have:=h.1;simp only [IntKind.max_i64];omega)];rfl,h.2⟩
 case eql=>exact⟨_,fun w=>by rw [R3];simp only [Op.stringOp,V4];rfl,h⟩
 case neq=>exact⟨_,fun w=>by rw [R3];simp only [Op.stringOp,V4];rfl,h⟩
 case lss=>exact⟨_,fun w=>by rw [R3];simp only [Op.stringOp,V4];rfl,h⟩
 case leq=>exact⟨_,fun w=>by rw [R3];simp only [Op.stringOp,V4];rfl,h⟩
 case gtr=>exact⟨_,fun w=>by rw [R3];simp only [Op.stringOp,V4];rfl,h⟩
 case geq=>exact⟨_,fun w=>by rw [R3];simp only [Op.stringOp,V4];rfl,h⟩
 all_goals exact h
theorem A57 (op:BinOp) (T:Nat) (k yk:IntKind) (a b:Int) (K:Value->Prop) (h:B49 P op T k yk a b K):∃ v,(∀ w,(binOp op T (.int k a) (.int yk b)).run P w=.ok v w)/\K v:=by
 cases op
 case shl=>exact⟨_,fun w=>by simp only [binOp_shl,shift_shl k yk a b h.1.1 h.1.2];rfl,h.2⟩
 case shr=>exact⟨_,fun w=>by simp only [binOp_shr,shift_shr k yk a b h.1.1 h.1.2];rfl,h.2⟩
 all_goals exact h
theorem A9P (B:Bool) (op:BinOp) (T:Nat) (ox oy:Operand) (x y:Value) (K:Value->Prop) (hT:B=true->P.underlying T=some .bool) (h:B8g P B op T ox oy x y K):
  ∃ v,(∀ w,(do eqGuard op T ox oy x y;binOp op T x y:Sem Value).run P w=.ok v w)/\K v:=by
 unfold B8g at h
 split at h
 ·rename_i k a k' b
  have hg:∀ w,(eqGuard op T ox oy (.int k a) (.int k' b)).run P w=.ok () w:=fun w=>by rw [eqGuard_at_int];rfl
  cases hs:B0d op
  ·rw [hs] at h
   simp only [cond_false] at h
   cases hk:A7H k k'
   ·rw [hk] at h;exact h.elim
   ·rw [hk] at h
    have:=A9M hk
    subst this
    obtain⟨v,h1,h2⟩:=A9N op T k a b K h
    exact⟨v,fun w=>by rw [Sem.run_bind,hg,Result.andThen_ok,h1],h2⟩
  ·rw [hs] at h
   obtain⟨v,h1,h2⟩:=A57 op T k k' a b K h
   exact⟨v,fun w=>by rw [Sem.run_bind,hg,Result.andThen_ok,h1],h2⟩
 ·rename_i a b
  obtain⟨v,h1,h2⟩:=A9O op T a b K h
  exact⟨v,fun w=>by rw [eqGuard_at_string,Sem.run_bind,Sem.run_pure,Result.andThen_ok,h1],h2⟩
 ·rename_i a b
  cases B
  ·exact h.elim
  ·have ht:=hT rfl
   simp only [cond_true] at h
   split at h
   ·exact⟨_,fun w=>by rw [eqGuard_at_bool,Sem.run_bind,Sem.run_pure,Result.andThen_ok,run_eql_bool w T a b ht],h⟩
   ·exact⟨_,fun w=>by rw [eqGuard_at_bool,Sem.run_bind,Sem.run_pure,Result.andThen_ok,run_neq_bool w T a b ht],h⟩
   ·exact h.elim
 ·exact h
theorem B0l (op:UnOp) (x:Value) (K:Value->Prop) (h:vUn P op x K):∃ v,(∀ w,(Op.unary op x).run P w=.ok v w)/\K v:=by
 unfold vUn at h
 split at h
 ·exact⟨_,fun w=>rfl,h⟩
 ·exact⟨_,fun w=>by simp [Op.unary,Op.intArith],h⟩
 ·exact h
theorem A29 {w:World} {a:Addr}:∀ (cs:List Value) (i:Nat),cellsAt w a cs i->∀ j v,cs[j]?=some v->w.cell? (a.add (i+j))=some v
 | [],_,_,j,v,h=>by simp at h
 | c::r,i,⟨h1,h2⟩,j,v,h=>by
  cases j with
  | zero=>simp at h;subst h;simpa using h1
  | succ j=>
   have:=A29 r (i+1) h2 j v (by simpa using h)
   rwa [show i+1+j=i+(j+1) from by omega] at this
theorem O4 {t n:Nat} {d:TypeDesc} (hu:P.underlying t=some d) (hd:A0C d=true) (hs:szN P t n) {w:World} {a:Addr} {cs:List Value} (hl:cs.length=n) (h:cellsAt w a cs 0):
  (loadVar t a).run P w=.ok (.agg cs.toArray) w:=by
 simp only [loadVar,Sem.run_bind,A41 hu,Result.andThen_ok,hd,if_true,K4 hs]
 subst hl
 have:=run_loadCells_list (P:=P) w a cs (fun j v hj=>by have:=A29 cs 0 h j v hj;simpa using this)
 simp [this]
theorem E0 {t:Nat} {d:TypeDesc} (hu:P.underlying t=some d) (hd:A0C d=false) {w:World} {a:Addr} {v:Value} (h:w.cell? a=some v):
  (loadVar t a).run P w=.ok v w:=by
 simp only [loadVar,Sem.run_bind,A41 hu,Result.andThen_ok,hd]
 simp [h]
theorem frozen?_setCell (w:World) (a b:Addr) (v:Value):(w.setCell a v).frozen? b=w.frozen? b:=by
 simp only [World.frozen?,World.setCell,Array.getElem?_modify]
 by_cases h:a.block=b.block
 ·rw [if_pos h]
  cases hb:w.heap[b.block]? with
  | none=>rfl
  | some o=>cases o<;>rfl
 ·rw [if_neg h]
theorem A2S {a p:Addr} {u:Value}:∀ (cs:List Value) (w:World) (i:Nat),G5 w a cs i->G5 (w.setCell p u) a cs i
 | [],_,_,_=>trivial
 | v::r,w,i,⟨⟨x,h1⟩,h2,h3,h4⟩=>by
  refine⟨?_,by rw [frozen?_setCell];exact h2,h3,A2S r w (i+1) h4⟩
  by_cases e:p=a.add i
  ·subst e;exact⟨u,World.cell?_setCell_same w _ _ h1⟩
  ·exact⟨x,by rw [World.cell?_setCell_other w p _ u e];exact h1⟩
theorem P0 {a:Addr}:∀ (cs:List Value) (w:World) (i:Nat),G5 w a cs i->(storeCells a cs i).run P w=.ok () (stored w a cs i)
 | [],w,i,_=>rfl
 | v::r,w,i,⟨⟨x,h1⟩,h2,h3,h4⟩=>by
  have hs:(store (a.add i) v).run P w=.ok () (w.setCell (a.add i) v):=by rw [run_store P w _ v _ h3,h1];simp [h2]
  show (store (a.add i) v >>= fun _=>storeCells a r (i+1)).run P w=_
  rw [Sem.run_bind,hs]
  exact P0 r _ _ (A2S r w (i+1) h4)
theorem A8I {F:Array Field} {fs:List (Nat × Nat × Bool)} (h:B8Z P F fs) {i off size:Nat} {g:Bool} (hi:fs[i]?=some (off,size,g)):
  ∃ fl,F[i]?=some fl/\fl.offset=off/\szN P fl.type size/\∃ d,P.underlying fl.type=some d/\A0C d=g:=by
 have h1:=congrArg (fun l=>l[i]?) h
 simp only [List.getElem?_map,hi,Option.map_some] at h1
 cases hf:F.toList[i]? with
 | none=>rw [hf] at h1;cases h1
 | some fl=>
  rw [hf] at h1
  simp only [Option.map_some,Option.some.injEq,Prod.mk.injEq] at h1
  obtain⟨e1,e2,e3⟩:=h1
  refine⟨fl,by simpa using hf,e1,e2,?_⟩
  cases hu:P.underlying fl.type with
  | none=>rw [hu] at e3;cases e3
  | some d=>rw [hu] at e3;exact⟨d,rfl,by simpa using e3⟩
theorem Runs.goes {s:Sem Value} {w:World} {K:Value->World->Prop} (h:Runs P s w K):Goes P K ((do pure (.value (<-s)):Sem Next).run P w):=by
 obtain⟨v,w',h1,h2⟩:=h
 simp only [Sem.run_bind,h1,Result.andThen_ok,Sem.run_pure]
 exact h2
theorem X2 {s:Sem Value} {w w':World} {v:Value} {K:Value->World->Prop} (h:s.run P w=.ok v w') (k:K v w'):Goes P K ((do pure (.value (<-s)):Sem Next).run P w):=
 Runs.goes ⟨v,w',h,k⟩
theorem A8J (off:Nat):∀ (l:List Value) (k:Nat) (cs:Array Value),
  (l.zipIdx k).foldl (fun (cs:Array Value) (x:Value × Nat)=>cs.setIfInBounds (off+x.2) x.1) cs=(D3 cs.toList (off+k) l).toArray
 | [],k,cs=>by simp [D3]
 | v::r,k,cs=>by
  simp only [List.zipIdx_cons,List.foldl_cons,D3]
  rw [A8J off r (k+1)]
  simp [Nat.add_assoc]
theorem A8K (off:Nat) (v:Value) (cs:Array Value):
  v.cells.zipIdx.foldl (fun cs (c,j)=>cs.setIfInBounds (off+j) c) cs=(D3 cs.toList off v.cells.toList).toArray:=by
 have h:=A8J off v.cells.toList 0 cs
 rw [Nat.add_zero] at h
 rw [<-h,<-Array.foldl_toList]
 congr 1
 simp
theorem B5C (places:Array (Nat × Nat)) (fs:List (Nat × Nat × Bool)) (hp:∀ i:Nat,places[i]?=(fs[i]?).map fun (x:Nat × Nat × Bool)=>(x.1,x.2.1)):
  ∀ (l:List (Nat × Value)) (cs r:List Value),B0f fs cs l=some r->Instr.fill (places[·]?) cs.toArray l=some r.toArray
 | [],cs,r,h=>by simp [B0f] at h;subst h;rfl
 | (i,v)::l,cs,r,h=>by
  simp only [B0f] at h
  cases hi:fs[i]? with
  | none=>rw [hi] at h;cases h
  | some x=>
   obtain⟨off,size,g⟩:=x
   rw [hi] at h
   simp only at h
   cases hb:(Nat.beq v.cells.size size&&Nat.ble (off+size) cs.length) with
   | false=>rw [hb] at h;cases h
   | true=>
    rw [hb] at h
    simp only [Bool.and_eq_true] at hb
    have e1:=Nat.eq_of_beq_eq_true hb.1
    have e2:=Nat.le_of_ble_eq_true hb.2
    have hpi:places[i]?=some (off,size):=by rw [hp,hi];rfl
    simp only [Instr.fill,hpi]
    rw [if_neg (by simp;omega),A8K]
    exact B5C places fs hp l _ r h
theorem B0m (esz:Nat):∀ (l:List (Nat × Value)) (cs r:List Value),A25 esz cs l=some r->Instr.fill (fun i=>some (i*esz,esz)) cs.toArray l=some r.toArray
 | [],cs,r,h=>by simp [A25] at h;subst h;rfl
 | (i,v)::l,cs,r,h=>by
  simp only [A25] at h
  cases hb:(Nat.beq v.cells.size esz&&Nat.ble (i*esz+esz) cs.length) with
  | false=>rw [hb] at h;cases h
  | true=>
   rw [hb] at h
   simp only [Bool.and_eq_true] at hb
   have e1:=Nat.eq_of_beq_eq_true hb.1
   have e2:=Nat.le_of_ble_eq_true hb.2
   simp only [Instr.fill]
   rw [if_neg (by simp;omega),A8K]
   exact B0m esz l _ r h
theorem A3A (z:List Value):∀ n,(A1D z n).length=n*z.length
 | 0=>by simp [A1D]
 | n+1=>by simp [A1D,A3A z n,Nat.succ_mul];omega
theorem A58 (z:List Value) (hz:0<z.length):∀ (n i:Nat),i<n*z.length->(A1D z n)[i]?=z[i % z.length]?
 | 0,i,h=>by simp at h
 | n+1,i,h=>by
  simp only [A1D]
  rcases Nat.lt_or_ge i z.length with hi | hi
  ·rw [List.getElem?_append_left hi,Nat.mod_eq_of_lt hi]
  ·rw [List.getElem?_append_right hi,A58 z hz n (i-z.length) (by rw [Nat.succ_mul] at h;omega),Nat.mod_eq_sub_mod hi]
theorem A59:∀ (v a b c:List Value),v.length=b.length->D3 (a++(b++c)) a.length v=a++(v++c)
 | [],a,b,c,h=>by
  have:b=[]:=List.eq_nil_of_length_eq_zero h.symm
  subst this
  rfl
 | x::v,a,b,c,h=>by
  cases b with
  | nil=>cases h
  | cons y b=>
   have e:(a++(y::b++c)).set a.length x=(a++[x])++(b++c):=by
    rw [List.set_append_right _ _ (Nat.le_refl _),Nat.sub_self]
    simp
   have ih:=A59 v (a++[x]) b c (by simpa using h)
   rw [List.length_append,List.length_singleton] at ih
   rw [D3,e,ih]
   simp
theorem B0n {esz:Nat} {z:List Value} (hz:z.length=esz):∀ (l:List (Nat × Value)) (i:Nat) (cs done:List Value),done.length=i*esz->A7I esz i l=some cs->A25 esz (done++A1D z l.length) l=some (done++cs)
 | [],i,cs,done,hd,h=>by
  simp only [A7I] at h
  cases h
  simp [A1D,A25]
 | (j,v)::r,i,cs,done,hd,h=>by
  simp only [A7I] at h
  cases hb:(Nat.beq j i&&Nat.beq v.cells.size esz) with
  | false=>rw [hb] at h;cases h
  | true=>
   rw [hb] at h
   simp only [Bool.and_eq_true] at hb
   have e1:=Nat.eq_of_beq_eq_true hb.1
   have e2:=Nat.eq_of_beq_eq_true hb.2
   subst e1
   cases ht:A7I esz (j+1) r with
   | none=>rw [ht] at h;cases h
   | some t=>
    rw [ht] at h
    cases h
    have e3:v.cells.toList.length=z.length:=by rw [Array.length_toList,e2,hz]
    have ih:=B0n hz r (j+1) t (done++v.cells.toList) (by rw [List.length_append,hd,e3,hz,Nat.succ_mul]) ht
    have e4:(Nat.beq v.cells.size esz&&Nat.ble (j*esz+esz) (done++A1D z ((j,v)::r).length).length)=true:=by
     rw [Bool.and_eq_true]
     refine⟨hb.2,Nat.ble_eq_true_of_le ?_⟩
     rw [List.length_append,hd,A3A,List.length_cons,Nat.succ_mul,hz]
     omega
    rw [A25,e4,List.length_cons,A1D,<-hd,A59 _ _ _ _ e3,<-List.append_assoc]
    rw [List.append_assoc done] at ih
    simpa [List.append_assoc] using ih
theorem B5i {esz n:Nat} {z:List Value} (hz:z.length=esz) {l:List (Nat × Value)} {cs:List Value} (h:B3X esz n z l=some cs):A25 esz (A1D z n) l=some cs:=by
 unfold B3X at h
 cases hb:Nat.beq l.length n with
 | false=>rw [hb] at h;exact h
 | true=>
  rw [hb] at h
  simp only [cond_true] at h
  have e:=Nat.eq_of_beq_eq_true hb
  cases hf:A7I esz 0 l with
  | none=>rw [hf] at h;exact h
  | some t=>
   rw [hf] at h
   cases h
   have:=B0n hz l 0 cs [] (by simp) hf
   rw [<-e]
   simpa using this
theorem B3Y (z:List Value) (hz:0<z.length) (n:Nat):((Array.range (n*z.length)).map (fun i=>z.toArray[i % z.toArray.size]!))=(A1D z n).toArray:=by
 apply Array.ext
 ·simp [A3A]
 ·intro i h1 h2
  have h3:i<n*z.length:=by simpa using h1
  have h4:i % z.length<z.length:=Nat.mod_lt _ hz
  have:=A58 z hz n i h3
  rw [List.getElem?_eq_getElem (by simpa using h2),List.getElem?_eq_getElem h4] at this
  simp only [Array.getElem_map,Array.getElem_range,List.getElem_toArray]
  rw [getElem!_pos _ _ (by simpa using h4)]
  simpa using this.symm
theorem A7M {t:Nat} {d:TD} (h:B8a P t d) (hd:d≠.none):∃ v,szV P t d.size v/\v.cells=d.zero.toArray/\d.zero.length=d.size:=by
 cases d with
 | none=>exact absurd rfl hd
 | int k=>exact⟨_,h.2,rfl,rfl⟩
 | str=>exact⟨_,h.2,rfl,rfl⟩
 | bool=>exact⟨_,h.2,rfl,rfl⟩
 | slice e esz=>exact⟨_,h.2.1,rfl,rfl⟩
 | array n e esz z=>exact⟨_,h.2.1,rfl,rfl⟩
 | struct fs z=>exact⟨_,h.2,rfl,rfl⟩
 | one z=>exact⟨_,h.2.1,h.2.2,rfl⟩
theorem A0D (k:IntKind) (n:Int) (y:Nat) (code:BoundsCode) (w:World) (h0:0<=n) (h1:n<=y):(Instr.sliceBound (.int k n) y code).run P w=.ok n.toNat w:=by
 simp only [Instr.sliceBound,asIntOf,Sem.run_bind,Sem.run_pure,Result.andThen_ok]
 rw [if_pos ⟨h0,h1⟩]
 rfl
theorem V5 {f:Fr} {d:Nat} {x:Operand} {n:Int} (h:Z7 f d (some x)=some n):∃ k,ev f x=.int k n:=by
 simp only [Z7] at h
 split at h
 ·rename_i k m he
  simp at h
  subst h
  exact⟨k,he⟩
 ·cases h
theorem A16 (isS:Bool) (f:Fr) (len cap:Nat) (lo hi:Option Operand) (l h:Int) (w:World) (hl:Z7 f 0 lo=some l) (hh:Z7 f len hi=some h) (h0:0<=l) (h1:l<=h) (h2:h<=cap):
  (Instr.sliceBounds isS len cap (lo.map (ev f)) (hi.map (ev f)) none).run P w=.ok (l.toNat,h.toNat,cap) w:=by
 have hhi:∀ c:BoundsCode,((match hi.map (ev f) with | some v=>Instr.sliceBound v cap c | none=>pure len:Sem Nat)).run P w=.ok h.toNat w:=by
  intro c
  cases hi with
  | none=>simp only [Z7,Option.some.injEq] at hh;subst hh;simp
  | some x=>obtain⟨k,e⟩:=V5 hh;simp only [Option.map_some,e];exact A0D k h cap c w (by omega) h2
 have hlo:((match lo.map (ev f) with | some v=>Instr.sliceBound v h.toNat .sliceB | none=>pure 0:Sem Nat)).run P w=.ok l.toNat w:=by
  cases lo with
  | none=>simp only [Z7,Option.some.injEq] at hl;subst hl;simp
  | some x=>obtain⟨k,e⟩:=V5 hl;simp only [Option.map_some,e];exact A0D k l h.toNat .sliceB w h0 (by omega)
 have hhi':=hhi (if isS then .sliceAcap else .sliceAlen)
 simp only [Instr.sliceBounds,Sem.run_bind,Sem.run_pure,Result.andThen_ok]
 cases hi with
 | none=>
  simp only [Option.map_none] at hhi' ⊢
  simp only [Sem.run_pure,Result.ok.injEq] at hhi'
  rw [<-hhi'.1] at hlo
  cases lo with
  | none=>simp only [Option.map_none,Sem.run_pure,Result.ok.injEq] at hlo ⊢;simp [hlo.1,hhi'.1]
  | some x=>simp only [Option.map_some,Option.isSome_none,Bool.false_eq_true,if_false,Sem.run_bind,Sem.run_pure,Result.andThen_ok] at hlo ⊢;rw [hlo];simp [hhi'.1]
 | some y=>
  simp only [Option.map_some] at hhi' ⊢
  cases lo with
  | none=>simp only [Option.map_none,Sem.run_pure,Result.ok.injEq] at hlo;simp [hhi',hlo.1]
  | some x=>simp only [Option.map_some,Option.isSome_none,Bool.false_eq_true,if_false,Sem.run_bind] at hlo ⊢;rw [hhi'];simp only [Result.andThen_ok];rw [hlo];simp
theorem A7N (isS:Bool) (f:Fr) (len cap:Nat) (lo hi mx:Operand) (l h m:Int) (w:World) (hl:Z7 f 0 (some lo)=some l) (hh:Z7 f len (some hi)=some h) (hm:Z7 f cap (some mx)=some m)
  (h0:0<=l) (h1:l<=h) (h2:h<=m) (h3:m<=cap):(Instr.sliceBounds isS len cap (some (ev f lo)) (some (ev f hi)) (some (ev f mx))).run P w=.ok (l.toNat,h.toNat,m.toNat) w:=by
 obtain⟨k1,e1⟩:=V5 hl
 obtain⟨k2,e2⟩:=V5 hh
 obtain⟨k3,e3⟩:=V5 hm
 have r3:=A0D (P:=P) k3 m cap (if isS then .slice3Acap else .slice3Alen) w (by omega) h3
 have r2:=A0D (P:=P) k2 h m.toNat .slice3B w (by omega) (by omega)
 have r1:=A0D (P:=P) k1 l h.toNat .slice3C w h0 (by omega)
 rw [e1,e2,e3]
 simp only [Instr.sliceBounds,Sem.run_bind,r3,Result.andThen_ok,r2,Option.isSome_some,if_true,r1,Sem.run_pure]
theorem A2T (hL:L.Ok P) (b:Builtin) (ats:Array Nat) (T:Nat) (cs:Array Bool) (xs:List Value) (K:Value->Prop) (h:A8H P L b ats T cs xs K):
  ∃ v,(∀ w,(builtin b ats T cs xs.toArray).run P w=.ok (.value v) w)/\K v:=by
 unfold A8H at h
 split at h
 ·rename_i t x ha
  have hats:ats=#[t]:=by apply Array.toList_inj.1;simpa using ha
  subst hats
  have ht:=hL.ty t
  have main:∀ v,(∀ w,(Builtin.len_ #[t] T #[x]).run P w=.ok v w)->K v->∃ v,(∀ w,(builtin .len #[t] T cs [x].toArray).run P w=.ok (.value v) w)/\K v:=by
   intro v h1 h2
   refine⟨v,fun w=>?_,h2⟩
   show ((do pure (.value (<-Builtin.len_ #[t] T #[x])):Sem Next)).run P w=_
   simp only [Sem.run_bind,h1,Result.andThen_ok,Sem.run_pure]
  generalize L.ty t=d at h ht
  cases d<;>cases x<;>first
   | exact (h:False).elim
   | (obtain⟨v,h1,h2⟩:=h;exact main v h1 h2)
   | exact main _ (fun w=>by simp [Builtin.len_,run_underlying ht.1,goInt]) h
 ·rename_i k x k' y
  exact⟨_,fun w=>by show ((do pure (.value (<-Builtin.min_ _ T #[.int k x,.int k' y])):Sem Next)).run P w=_;simp only [Sem.run_bind,run_min_int2,Result.andThen_ok,Sem.run_pure],h⟩
 ·rename_i k x k' y
  exact⟨_,fun w=>by show ((do pure (.value (<-Builtin.max_ _ T #[.int k x,.int k' y])):Sem Next)).run P w=_;simp only [Sem.run_bind,run_max_int2,Result.andThen_ok,Sem.run_pure],h⟩
 ·exact⟨_,fun w=>rfl,h⟩
 ·exact⟨_,fun w=>rfl,h⟩
 ·exact⟨_,fun w=>rfl,h⟩
 ·exact h
theorem X3 {a:Option Addr} {cap esz:Nat} {l h m:Option Int} {K:Value->Prop} (hv:A26 a cap esz l h m K):
  ∃ i j:Int,l=some i/\h=some j/\∃ k,m=some k/\0<=i/\i<=j/\j<=k/\k<=cap/\K (.slice (if k=i then a else a.map (·.add (i.toNat*esz))) (j-i).toNat (k-i).toNat):=by
 unfold A26 at hv
 split at hv
 ·exact⟨_,_,rfl,rfl,_,rfl,hv.1.1,hv.1.2.1,hv.1.2.2.1,hv.1.2.2.2,hv.2⟩
 ·exact hv.elim
theorem A1E:∀ (l:List Field) (fs:List (Nat × Nat × Bool)) (w:World),
  l.map (fun fl=>(fl.offset,(P.info? fl.type).map (fun i=>i.size),(P.underlying fl.type).map A0C))=fs.map (fun x=>(x.1,some x.2.1,some x.2.2))->
  (l.mapM (fun fl=>do pure (fl.offset,<-sizeOf fl.type)):Sem (List (Nat × Nat))).run P w=.ok (fs.map fun (x:Nat × Nat × Bool)=>(x.1,x.2.1)) w
 | [],[],w,_=>rfl
 | [],_::_,w,h=>by simp at h
 | _::_,[],w,h=>by simp at h
 | fl::l,x::fs,w,h=>by
  simp only [List.map_cons,List.cons.injEq,Prod.mk.injEq] at h
  obtain⟨⟨h1,h2,_⟩,h4⟩:=h
  have hs:szN P fl.type x.2.1:=h2
  simp only [List.mapM_cons,Sem.run_bind,K4 hs,Result.andThen_ok,Sem.run_pure,A1E l fs w h4,List.map_cons,h1]
theorem A9Q {F:Array Field} {fs:List (Nat × Nat × Bool)} (h:B8Z P F fs) (w:World):
  (F.mapM (fun fl=>do pure (fl.offset,<-sizeOf fl.type)):Sem (Array (Nat × Nat))).run P w=.ok (fs.map fun (x:Nat × Nat × Bool)=>(x.1,x.2.1)).toArray w:=by
 have:=A1E F.toList fs w h
 rw [Array.mapM_eq_mapM_toList,Sem.run_map,this]
 rfl
theorem B7F (g:Operand->Value) (xs:Array Operand):xs.map g=(xs.toList.map g).toArray:=by
 apply Array.toList_inj.1
 simp
theorem E6 {s:Sem Value} {v:Value} {K:Value->Prop} (h:∀ w,s.run P w=.ok v w) (k:K v):∃ v,(∀ w,((do pure (.value (<-s)):Sem Next)).run P w=.ok (.value v) w)/\K v:=
 ⟨v,fun w=>by simp only [Sem.run_bind,h,Result.andThen_ok,Sem.run_pure],k⟩
theorem A6A (hL:L.Ok P) (T:Nat) (op:Op) (f:Fr) (K:Value->Prop) (h:pOp P L T op f K)
  (dst:Option Nat) (pos:String) (after:Array Edge) (g:Option (Nat × Bool)):∃ v,(∀ w,(execOp (ev f) ⟨dst,op,T,pos,after,g⟩).run P w=.ok (.value v) w)/\K v:=by
 cases op<;>simp only [pOp,A2o,A7K,A7L,B5h] at h<;>simp only [execOp]
 case move x=>exact⟨_,fun _=>rfl,h⟩
 case assign x=>exact⟨_,fun _=>rfl,h⟩
 case pick c x y=>
  split at h
  ·rename_i b hb
   rw [hb]
   cases b
   ·exact⟨_,fun _=>rfl,h⟩
   ·exact⟨_,fun _=>rfl,h⟩
  ·exact h.elim
 case binOp op t x y yt=>
  obtain⟨v,h1,h2⟩:=A9P (P:=P) (L.ty t).isBool op t x y (ev f x) (ev f y) K (fun hb=>by
   have ht:=hL.ty t
   cases hd:L.ty t<;>rw [hd] at hb ht<;>first | exact ht.1 | cases hb) h
  exact E6 h1 h2
 case unOp op t x=>
  obtain⟨v,h1,h2⟩:=B0l op (ev f x) K h
  exact E6 h1 h2
 case fieldAddr t x i=>
  split at h
  ·rename_i fs z a e1 e2
   have ht:=hL.ty t
   rw [e1] at ht
   obtain⟨⟨F,hu,hf⟩,_⟩:=ht
   split at h
   ·rename_i off size g' hi
    obtain⟨fl,h1,h2,h3,_⟩:=A8I hf hi
    cases hz:Nat.beq size 0
    ·rw [hz] at h
     have hne:size≠0:=fun e=>by subst e;cases hz
     refine E6 (fun w=>?_) h
     simp [Instr.fieldAt,run_underlying hu,h1,e2,Instr.sureAddr,fieldPlace,K4 h3,hne,h2]
    ·rw [hz] at h;exact h.elim
   ·exact h.elim
  ·exact h.elim
 case field t x i=>
  split at h
  ·rename_i fs z cs e1 e2
   have ht:=hL.ty t
   rw [e1] at ht
   obtain⟨⟨F,hu,hf⟩,_⟩:=ht
   split at h
   ·rename_i off size g' hi
    obtain⟨fl,h1,h2,h3,d,h4,h5⟩:=A8I hf hi
    subst h2
    cases g'
    ·simp only [cond_false] at h
     split at h
     ·rename_i v hv
      refine E6 (fun w=>?_) h
      simp [Instr.field,run_underlying hu,h1,e2,asAgg,part,A41 h4,h5,hv]
     ·exact h.elim
    ·refine E6 (fun w=>?_) h
     simp [Instr.field,run_underlying hu,h1,e2,asAgg,part,A41 h4,h5,K4 h3]
   ·exact h.elim
  ·exact h.elim
 case build t ps=>
  have ht:=hL.ty t
  generalize hd:L.ty t=d at h ht
  cases d with
  | struct fs z=>
   simp only at h
   split at h
   ·rename_i cs hcs
    obtain⟨⟨F,hu,hf⟩,hz⟩:=ht
    refine E6 (fun w=>?_) h
    have hpl:=A9Q hf
    simp only [Instr.build,Sem.run_bind,A2n hz,Result.andThen_ok,run_underlying hu,hpl]
    have:=B5C (fs.map fun (x:Nat × Nat × Bool)=>(x.1,x.2.1)).toArray fs (fun i=>by simp) _ _ _ hcs
    simp only [Value.cells]
    rw [Array.toList_map]
    rw [this]
    rfl
   ·exact h.elim
  | array n e esz z=>
   simp only at h
   split at h
   ·rename_i cs hcs
    refine E6 (fun w=>?_) h
    have:=B0m esz _ _ _ hcs
    simp only [Instr.build,Sem.run_bind,A2n ht.2.1,Result.andThen_ok,run_underlying ht.1,K4 ht.2.2]
    simp only [Value.cells]
    rw [Array.toList_map]
    rw [this]
    rfl
   ·exact h.elim
  | _=>exact h.elim
 case index t x i=>
  have ht:=hL.ty t
  generalize hd:L.ty t=d at h ht
  generalize hx:ev f x=vx at h
  generalize hi:ev f i=vi at h
  split at h
  ·rename_i s k n
   obtain⟨⟨h0,h1⟩,h2⟩:=h
   refine E6 (fun w=>?_) h2
   have hlt:n.toNat<s.size:=by omega
   have hg:s[n.toNat]?=some (s.data.toList.getD n.toNat 0):=by
    have h3:n.toNat<s.data.toList.length:=by rw [Array.length_toList];exact hlt
    rw [List.getD_eq_getElem?_getD,List.getElem?_eq_getElem h3]
    rw [getElem?_pos s n.toNat hlt]
    rfl
   simp [Instr.index,asIntOf,run_underlying ht.1,h0,hg]
  ·obtain⟨v,h1,h2⟩:=h
   exact E6 h1 h2
 case indexAddr t x i=>
  have ht:=hL.ty t
  generalize hd:L.ty t=d at h ht
  generalize hx:ev f x=vx at h
  generalize hi:ev f i=vi at h
  split at h
  ·rename_i e esz a len cap k n
   obtain⟨⟨h0,h1⟩,h2⟩:=h
   refine E6 (fun w=>?_) h2
   simp only [Instr.indexAt,asIntOf,Sem.run_bind,Sem.run_pure,Result.andThen_ok,run_underlying ht.1]
   rw [Sem.run_ite,if_pos ⟨h0,h1⟩]
   simp only [Sem.run_bind,Sem.run_pure,Result.andThen_ok,K4 ht.2.2]
  ·rename_i len e esz z a k n
   obtain⟨⟨h0,h1⟩,h2⟩:=h
   refine E6 (fun w=>?_) h2
   simp only [Instr.indexAt,Instr.sureAddr,asIntOf,Sem.run_bind,Sem.run_pure,Result.andThen_ok,run_underlying ht.1]
   rw [Sem.run_ite,if_pos ⟨h0,h1⟩]
   simp only [Sem.run_bind,Sem.run_pure,Result.andThen_ok,K4 ht.2.2]
  ·exact h.elim
 case slice t x lo hi mx=>
  have ht:=hL.ty t
  generalize hd:L.ty t=d at h ht
  generalize hx:ev f x=vx at h
  split at h
  ·rename_i s
   cases mx with
   | some _=>exact h.elim
   | none=>
    simp only at h
    unfold B0g at h
    split at h
    ·rename_i l' h' i j e1 e2
     obtain⟨⟨h0,h1,h2⟩,h3⟩:=h
     refine E6 (fun w=>?_) h3
     have hb:=A16 (P:=P) false f s.size s.size lo hi i j w e1 e2 h0 h1 h2
     simp only [Instr.sliceAt,Sem.run_bind,run_underlying ht.1,Result.andThen_ok,Instr.slice,Option.map_none,Option.isSome_none,Bool.false_eq_true,if_false,Sem.run_pure,hb]
    ·exact h.elim
  ·rename_i e esz a len cap
   cases mx with
   | some mx=>
    cases lo with
    | none=>exact h.elim
    | some lo=>
     cases hi with
     | none=>exact h.elim
     | some hi=>
      simp only at h
      obtain⟨i,j,e1,e2,k,e3,h0,h1,h2,h3,h4⟩:=X3 h
      refine E6 (fun w=>?_) h4
      have hb:=A7N (P:=P) true f len cap lo hi mx i j k w e1 e2 e3 h0 h1 h2 h3
      simp only [Instr.sliceAt,Sem.run_bind,run_underlying ht.1,Result.andThen_ok,Instr.slice,Option.map_some,hb,Sem.run_pure,K4 ht.2.2]
      congr 2
      ·by_cases e:k=i
       ·rw [if_pos e,if_pos (by omega)]
       ·rw [if_neg e,if_neg (by omega)]
      ·omega
      ·omega
   | none=>
    simp only at h
    obtain⟨i,j,e1,e2,k,e3,h0,h1,h2,h3,h4⟩:=X3 h
    simp only [Option.some.injEq] at e3
    subst e3
    refine E6 (fun w=>?_) h4
    have hb:=A16 (P:=P) true f len cap lo hi i j w e1 e2 h0 h1 (by omega)
    simp only [Instr.sliceAt,Sem.run_bind,run_underlying ht.1,Result.andThen_ok,Instr.slice,Option.map_none,hb,Sem.run_pure,K4 ht.2.2]
    congr 2
    ·by_cases e:(cap:Int)=i
     ·rw [if_pos e,if_pos (by omega)]
     ·rw [if_neg e,if_neg (by omega)]
    ·omega
    ·omega
  ·rename_i n e esz z a
   cases mx with
   | some _=>exact h.elim
   | none=>
    simp only at h
    obtain⟨i,j,e1,e2,k,e3,h0,h1,h2,h3,h4⟩:=X3 h
    simp only [Option.some.injEq] at e3
    subst e3
    refine E6 (fun w=>?_) h4
    have hb:=A16 (P:=P) false f n n lo hi i j w e1 e2 h0 h1 (by omega)
    simp only [Instr.sliceAt,Instr.sureAddr,Sem.run_bind,run_underlying ht.1,Result.andThen_ok,Option.map_none,hb,Sem.run_pure,K4 ht.2.2]
    congr 2
    ·by_cases e:(n:Int)=i
     ·rw [if_pos e,if_pos (by omega)]
     ·rw [if_neg e,if_neg (by omega)];rfl
    ·omega
    ·omega
  ·exact h.elim
 case extract x i=>
  split at h
  ·rename_i vs e
   split at h
   ·rename_i v hv
    refine E6 (fun w=>?_) h
    have:vs[i]?=some v:=by simpa using hv
    simp [Instr.extract,e,this]
   ·exact h.elim
  ·exact h.elim
 case makeFunc fn fs cs=>
  refine E6 (fun w=>?_) h
  rw [B7F (ev f) fs,B7F (ev f) cs]
  rfl
 case nilCheck x=>
  split at h
  ·rename_i a e;rw [e];exact⟨_,fun _=>rfl,h⟩
  ·rename_i n fs cs e;rw [e];exact⟨_,fun _=>rfl,h⟩
  ·exact h.elim
 case makeInterface t x=>obtain⟨v,h1,h2⟩:=h;exact E6 h1 h2
 case convert s d x=>
  split at h
  ·rename_i k k' k2 n e1 e2 e3
   have hs:=hL.ty s;have hd:=hL.ty d
   rw [e1] at hs;rw [e2] at hd
   exact E6 (fun w=>by simp [convert,run_underlying hs.1,run_underlying hd.1,e3,Conv.intToInt]) h
  ·rename_i s' e1 e2 e3
   have hs:=hL.ty s;have hd:=hL.ty d
   rw [e1] at hs;rw [e2] at hd
   exact E6 (fun w=>by simp [convert,run_underlying hs.1,run_underlying hd.1,e3]) h
  ·obtain⟨v,h1,h2⟩:=h;exact E6 h1 h2
 case call c=>
  obtain⟨callee,args,ats⟩:=c
  cases callee with
  | invoke r m=>exact h.elim
  | value fo=>exact h.elim
  | builtin b=>
   simp only at h
   cases hp:A40 b
   ·rw [hp] at h;exact h.elim
   ·rw [hp] at h
    obtain⟨v,h1,h2⟩:=A2T hL b ats T _ _ K h
    refine⟨v,fun w=>?_,h2⟩
    simp only [resolve,Sem.run_bind,Sem.run_pure,Result.andThen_ok,invoke]
    rw [B7F (ev f) args]
    exact h1 w
 all_goals exact h.elim
theorem A1F (hL:L.Ok P) (T:Nat) (op:Op) (f:Fr) (w:World) (K:Value->World->Prop) (h:vOp P L T op f w K)
  (dst:Option Nat) (pos:String) (after:Array Edge) (g:Option (Nat × Bool)):Goes P K ((execOp (ev f) ⟨dst,op,T,pos,after,g⟩).run P w):=by
 have pure_:pOp P L T op f (fun v=>K v w)->Goes P K ((execOp (ev f) ⟨dst,op,T,pos,after,g⟩).run P w):=by
  intro hp
  obtain⟨v,h1,h2⟩:=A6A hL T op f _ hp dst pos after g
  rw [h1]
  exact h2
 cases op
 all_goals (try (exact pure_ h))
 all_goals simp only [vOp,A7K,A7L,B0k] at h
 all_goals simp only [execOp]
 case load t x=>
  have ht:=hL.ty t
  generalize hd:L.ty t=d at h ht
  have key:∀ (a:Addr) (v:Value),ev f x=.pointer (some a)->(loadVar t a).run P w=.ok v w->K v w->Goes P K ((do pure (.value (<-Instr.loadAt t (ev f x))):Sem Next).run P w):=by
   intro a v e hr hk
   refine X2 ?_ hk
   simp [Instr.loadAt,e,Instr.sureAddr,hr]
  generalize hx:ev f x=vx at h key
  cases vx with
  | pointer p=>
   cases p with
   | none=>cases d<;>exact h.elim
   | some a=>
    cases d with
    | none=>exact h.elim
    | array n e esz z=>
     obtain⟨cs,h1,h2,h3⟩:=h
     exact key a _ rfl (O4 ht.1 rfl (A28 ht.2.1) h1 h2) h3
    | struct fs z=>
     obtain⟨cs,h1,h2,h3⟩:=h
     obtain⟨⟨F,hu,_⟩,hz⟩:=ht
     exact key a _ rfl (O4 hu rfl (A28 hz) h1 h2) h3
    | int k=>obtain⟨v,h1,h2⟩:=h;exact key a _ rfl (E0 ht.1 rfl h1) h2
    | str=>obtain⟨v,h1,h2⟩:=h;exact key a _ rfl (E0 ht.1 rfl h1) h2
    | bool=>obtain⟨v,h1,h2⟩:=h;exact key a _ rfl (E0 ht.1 rfl h1) h2
    | slice e s=>obtain⟨v,h1,h2⟩:=h;exact key a _ rfl (E0 ht.1 rfl h1) h2
    | one z=>obtain⟨v,h1,h2⟩:=h;obtain⟨⟨u,hu,hg⟩,_⟩:=ht;exact key a _ rfl (E0 hu hg h1) h2
  | _=>cases d<;>exact h.elim
 case store t x y=>
  have ht:=hL.ty t
  generalize hd:L.ty t=d at h ht
  generalize hx:ev f x=vx at h
  have main:∀ a,d≠.none->vx=.pointer (some a)->cond (Nat.beq (ev f y).cells.toList.length d.size) (G5 w a (ev f y).cells.toList 0/\∀ w',E2 w a (ev f y).cells.toList w'->K undef w') False->
    Goes P K ((do (Instr.storeAt t vx (ev f y));pure .skip:Sem Next).run P w):=by
   intro a hn e1 h
   cases hb:Nat.beq (ev f y).cells.toList.length d.size
   ·rw [hb] at h;exact h.elim
   ·rw [hb] at h
    obtain⟨h1,h2⟩:=h
    have e:=Nat.eq_of_beq_eq_true hb
    obtain⟨v,hz,_⟩:=A7M ht hn
    have h3:=h2 _ rfl
    simp only [Instr.storeAt,e1,Instr.sureAddr,storeVar,Sem.run_bind,Sem.run_pure,Result.andThen_ok,K4 (A28 hz)]
    rw [Sem.run_ite,if_neg (by simpa using e)]
    simp only [Result.andThen_ok,P0 _ _ _ h1]
    exact h3
  cases vx with
  | pointer p=>
   cases p with
   | none=>cases d<;>exact h.elim
   | some a=>
    cases d<;>first
     | exact h.elim
     | exact main a (fun e=>by cases e) rfl h
  | _=>cases d<;>exact h.elim
 case alloc t=>
  have ht:=hL.ty t
  generalize hd:L.ty t=d at h ht
  have main:d≠.none->(∀ g w',New w d.zero t g w'->K (.pointer (some ⟨g,0,none⟩)) w')->Goes P K ((do pure (.value (<-Instr.alloc t true (.tuple #[]))):Sem Next).run P w):=by
   intro hn h
   obtain⟨v,hz,hc,_⟩:=A7M ht hn
   refine X2 (w':=w.alloc (.cells d.zero.toArray t)) ?_ (h w.heap.size _ ⟨rfl,rfl⟩)
   simp [Instr.alloc,A2n hz,newVar,newRow,hc]
  cases d<;>first
   | exact h.elim
   | exact main (fun e=>by cases e) h
 case box t x=>
  refine X2 (w':=w.alloc (.cells (ev f x).cells t)) ?_ (h w.heap.size _ ⟨rfl,by simp⟩)
  simp [Instr.box,newVar,newRow]
 case buildSlice t n ps=>
  have ht:=hL.ty t
  generalize hd:L.ty t=d at h ht
  cases d with
  | slice e esz=>
   simp only at h
   cases hz:(Nat.beq n 0&&B5e ps.toList) with
   | true=>
    rw [hz] at h
    simp only [cond_true] at h
    simp only [Bool.and_eq_true] at hz
    have c1:=Nat.eq_of_beq_eq_true hz.1
    have c2:ps=#[]:=by
     obtain⟨l⟩:=ps
     cases l with
     | nil=>rfl
     | cons a r=>exact absurd hz.2 (by simp [B5e])
    subst c1
    subst c2
    refine X2 (w':=w.alloc (.cells #[] e)) ?_ (h w.heap.size _ ⟨rfl,rfl⟩)
    simp [Instr.buildSlice,run_underlying ht.1,K4 ht.2.2,Instr.fill,newRow]
    rw [show Array.range 0=#[] from Array.eq_empty_of_size_eq_zero (by simp),Array.map_empty]
   | false=>
   rw [hz] at h
   simp only [cond_false] at h
   cases hb:(Nat.ble (n*esz) 16777216&&!Nat.beq esz 0&&!Nat.beq n 0) with
   | false=>rw [hb] at h;exact h.elim
   | true=>
    rw [hb] at h
    simp only [cond_true] at h
    simp only [Bool.and_eq_true,Bool.not_eq_true'] at hb
    obtain⟨⟨b1,b2⟩,b3⟩:=hb
    have c1:=Nat.le_of_ble_eq_true b1
    have c2:esz≠0:=fun e=>by subst e;cases b2
    have c3:n≠0:=fun e=>by subst e;cases b3
    have te:=hL.ty e
    generalize hde:L.ty e=de at h te
    have main:de≠.none->cond (Nat.beq de.size esz) (match B3X esz n de.zero (ps.toList.map fun p=>(p.1,ev f p.2)) with
      | some cs=>∀ g w',New w cs e g w'->K (.slice (some ⟨g,0,none⟩) n n) w'
      | none=>False) False->Goes P K ((do pure (.value (<-Instr.buildSlice t n (ps.map fun (i,x)=>(i,ev f x)))):Sem Next).run P w):=by
     intro hn h
     obtain⟨v,hz,hc,hlen⟩:=A7M te hn
     cases hb2:Nat.beq de.size esz with
     | false=>rw [hb2] at h;exact h.elim
     | true=>
      rw [hb2] at h
      have hs:=Nat.eq_of_beq_eq_true hb2
      simp only [cond_true] at h
      split at h
      ·rename_i cs hcs
       refine X2 (w':=w.alloc (.cells cs.toArray e)) ?_ (h w.heap.size _ ⟨rfl,rfl⟩)
       have hfa:=B0m esz _ _ _ (B5i (hlen.trans hs) hcs)
       have hne:n*esz≠0:=Nat.mul_ne_zero c3 c2
       simp only [Instr.buildSlice,Sem.run_bind,run_underlying ht.1,Result.andThen_ok,K4 ht.2.2]
       rw [if_neg (by omega)]
       simp only [Sem.run_bind,Sem.run_pure,Result.andThen_ok,Sem.run_ite]
       rw [if_neg hne]
       simp only [Result.andThen_ok,A2n hz,hc]
       have hzz:=B3Y de.zero (by omega) n
       rw [hlen,hs] at hzz
       rw [hzz,Array.toList_map,hfa]
       simp [newRow]
      ·exact h.elim
    cases de<;>first
     | exact h.elim
     | exact main (fun e=>by cases e) h
  | _=>exact h.elim
 case convert s d x=>
  split at h
  ·rename_i k k' k2 n e1 e2 e3
   have hs:=hL.ty s;have hd:=hL.ty d
   rw [e1] at hs;rw [e2] at hd
   exact X2 (by simp [convert,run_underlying hs.1,run_underlying hd.1,e3,Conv.intToInt]) h
  ·rename_i s' e1 e2 e3
   have hs:=hL.ty s;have hd:=hL.ty d
   rw [e1] at hs;rw [e2] at hd
   exact X2 (by simp [convert,run_underlying hs.1,run_underlying hd.1,e3]) h
  ·exact Runs.goes h
 case makeMap t r=>exact Runs.goes h
 case makeSlice t l c=>exact Runs.goes h
 case lookup t x i ok=>exact Runs.goes h
 case range t x=>exact Runs.goes h
 case next it s=>exact Runs.goes h
 case entry it=>exact Runs.goes h
 case mapUpdate t m k x=>
  obtain⟨w',h1,h2⟩:=h
  simp only [Sem.run_bind,h1,Result.andThen_ok,Sem.run_pure]
  exact h2
 case insert t m k x=>
  obtain⟨w',h1,h2⟩:=h
  simp only [Sem.run_bind,h1,Result.andThen_ok,Sem.run_pure]
  exact h2
 case call c=>
  obtain⟨callee,args,ats⟩:=c
  cases callee with
  | invoke r m=>exact h.elim
  | builtin b=>
   simp only at h
   simp only [resolve,Sem.run_bind,Sem.run_pure,Result.andThen_ok,invoke]
   cases hp:A40 b
   ·rw [hp] at h
    obtain⟨v,w',h1,h2⟩:=h
    rw [B7F (ev f) args]
    exact Eq.mpr (congrArg (Goes P K) h1) h2
   ·rw [hp] at h
    simp only [cond_true] at h
    obtain⟨v,h1,h2⟩:=A2T hL b ats T _ _ _ h
    rw [B7F (ev f) args]
    exact Eq.mpr (congrArg (Goes P K) (h1 w)) h2
  | value fo=>
   simp only at h
   split at h
   ·rename_i n first captured e
    have main:A9L P L n (first.toList++args.toList.map (ev f)++captured.toList) w K:=by
     split at h
     ·rename_i e1 e2
      rw [e1,e2]
      simpa using h
     ·exact h
    unfold A9L at main
    cases hf:L.fns n with
    | false=>
     rw [hf] at main
     simp only [resolve,Sem.run_bind,Sem.run_pure,Result.andThen_ok,e,Deferred.ofValue,invoke]
     have e2:first++args.map (ev f)++captured=(first.toList++args.toList.map (ev f)++captured.toList).toArray:=by
      apply Array.toList_inj.1
      simp
     rw [e2]
     obtain⟨v,w',h1,h2⟩:=main.runs
     exact Eq.mpr (congrArg (Goes P K) h1) h2
    | true=>
     rw [hf] at main
     have hc:∀ (args:Array Value) (w:World),(callFunc n args).run P w=.ok (.enter n args) w:=hL.fns n hf
     simp only [resolve,Sem.run_bind,Sem.run_pure,Result.andThen_ok,e,Deferred.ofValue,invoke]
     have e2:first++args.map (ev f)++captured=(first.toList++args.toList.map (ev f)++captured.toList).toArray:=by
      apply Array.toList_inj.1
      simp
     rw [e2,hc]
     exact main.calls
   ·exact h.elim
theorem Agree.eval {n:Nat} {a:Act} {f:Fr} (h:Agree n a f):a.eval=ev f:=by
 funext x
 cases x with
 | tmp t=>exact h.2.2 t
 | _=>rfl
theorem Agree.put {n:Nat} {a:Act} {f:Fr} (h:Agree n a f) {t:Nat} (ht:t<n) (v:Value):Agree n (a.put (some t) v) (upd f t v):=by
 refine⟨h.1,by simp [Act.put,h.2.1],fun s=>?_⟩
 unfold upd
 cases hb:Nat.beq s t with
 | true=>
  have:=Nat.eq_of_beq_eq_true hb
  subst this
  simp [Act.put,Array.getD_eq_getD_getElem?,h.2.1,ht]
 | false=>
  have hne:t≠s:=fun e=>by subst e;simp at hb
  rw [cond_false,<-h.2.2 s]
  simp [Act.put,Array.getD_eq_getD_getElem?,Array.getElem?_setIfInBounds_ne hne]
theorem A8L {f:Fr} {t:Nat} {v:Value} (h:f t=v):upd f t v=f:=by
 funext s
 unfold upd
 cases hb:Nat.beq s t with
 | true=>have:=Nat.eq_of_beq_eq_true hb;subst this;exact h.symm
 | false=>rfl
theorem Agree.putO {n:Nat} {a:Act} {f:Fr} (h:Agree n a f) {d:Option Nat} (hd:(match d with | some t=>Nat.blt t n | none=>true)=true) (v:Value):Agree n (a.put d v) (B8f f d v):=by
 cases d with
 | none=>exact h
 | some t=>exact h.put (Nat.le_of_ble_eq_true hd) v
theorem X4 (f:Fr) (d:Option Nat) (v:Value) (K:Fr->Prop):A15 f d v K=K (B8f f d v):=by cases d<;>rfl
theorem A9R {n:Nat} {a:Act} {f:Fr} (hA:Agree n a f) {ops0:List Oper} {j t:Nat} {b:Bool} (hg:R1 ops0 f j=some (t,b)) {dst:Option Nat} {op:Op} {T:Nat} {pos:String} {after:Array Edge} {want:Bool}:
  upd f t (.bool b)=f/\Region.wanted ⟨dst,op,T,pos,after,some (j,want)⟩ (yielded ops0.toArray a.tmps)=(b==want):=by
 have hft:f t=.bool b/\(ops0[j]?).bind (·.dst)=some t:=by
  unfold R1 at hg
  cases ho:ops0[j]? with
  | none=>rw [ho] at hg;cases hg
  | some o=>
   rw [ho] at hg
   simp only at hg
   cases hdo:o.dst with
   | none=>rw [hdo] at hg;cases hg
   | some s=>
    rw [hdo] at hg
    simp only at hg
    cases hfs:f s<;>rw [hfs] at hg<;>first
     | (cases hg;exact⟨hfs,by simp [hdo]⟩)
     | (simp at hg)
 refine⟨A8L hft.1,?_⟩
 have htn:a.tmps[t]?=some (.bool b):=by
  have h1:=hA.2.2 t
  rw [hft.1] at h1
  rw [Array.getD_eq_getD_getElem?] at h1
  cases hx:a.tmps[t]? with
  | none=>rw [hx] at h1;cases h1
  | some x=>rw [hx] at h1;exact congrArg some h1
 simp only [Region.wanted,yielded,List.getElem?_toArray,hft.2,Option.bind_some,htn]
 cases b<;>cases want<;>rfl
theorem A4H {n:Nat} {a:Act} {f:Fr} (hA:Agree n a f) {ops0:List Oper} {j:Nat} (hg:R1 ops0 f j=none) {dst:Option Nat} {op:Op} {T:Nat} {pos:String} {after:Array Edge} {want:Bool}:
  Region.wanted ⟨dst,op,T,pos,after,some (j,want)⟩ (yielded ops0.toArray a.tmps)=false:=by
 have h:yielded ops0.toArray a.tmps j=none:=by
  unfold R1 at hg
  simp only [yielded,List.getElem?_toArray]
  cases ho:ops0[j]? with
  | none=>rfl
  | some o=>
   rw [ho] at hg
   simp only at hg
   cases hdo:o.dst with
   | none=>simp [hdo]
   | some s=>
    rw [hdo] at hg
    simp only at hg
    simp only [Option.bind_some,hdo]
    have h1:=hA.2.2 s
    rw [Array.getD_eq_getD_getElem?] at h1
    cases hx:a.tmps[s]? with
    | none=>rfl
    | some x=>
     rw [hx] at h1
     simp only [Option.getD_some] at h1
     rw [<-h1] at hg
     cases x<;>first | rfl | (simp at hg)
 simp only [Region.wanted,h]
 cases want<;>rfl
theorem V6 (hL:L.Ok P) (n:Nat) (ops0:List Oper) (K:Fr->World->Prop) (Q:Exit->Act->World->Prop) (hQ:∀ a f w,Agree n a f->K f w->Q .normal a w):
  ∀ (l:List Oper) (a:Act) (f:Fr) (w:World),Agree n a f->A0x n l=true->B0h P L ops0 l f w K->wpList P ops0.toArray Q l a w
 | [],a,f,w,hA,_,h=>hQ a f w hA h
 | ⟨dst,op,T,pos,after,none⟩::r,a,f,w,hA,hd,h=>by
  simp only [A0x,Bool.and_eq_true] at hd
  have h':vOp P L T op f w fun v w'=>A15 f dst v fun f'=>B0h P L ops0 r f' w' K:=h
  have hg:=A1F hL T op f w _ h' dst pos after none
  refine wpList_plain rfl fun Kn hKn=>?_
  unfold Oper.wp
  rw [hA.eval]
  refine hg.upon _ _ _ _ fun v w' hk=>hKn _ _ ?_
  rw [X4] at hk
  exact V6 hL n ops0 K Q hQ r _ _ _ (hA.putO hd.1 v) hd.2 hk
 | ⟨dst,op,T,pos,after,some (j,want)⟩::r,a,f,w,hA,hd,h=>by
  simp only [A0x,Bool.and_eq_true] at hd
  have h':(match R1 ops0 f j with
    | some (t,b)=>Bool.rec (motive:=fun _=>Prop)
      (cond want (A15 (upd f t (.bool false)) dst undef fun f'=>B0h P L ops0 r f' w K)
       (vOp P L T op (upd f t (.bool false)) w fun v w'=>A15 (upd f t (.bool false)) dst v fun f'=>B0h P L ops0 r f' w' K))
      (cond want (vOp P L T op (upd f t (.bool true)) w fun v w'=>A15 (upd f t (.bool true)) dst v fun f'=>B0h P L ops0 r f' w' K)
       (A15 (upd f t (.bool true)) dst undef fun f'=>B0h P L ops0 r f' w K)) b
    | none=>A15 f dst undef fun f'=>B0h P L ops0 r f' w K):=h
  cases hg:R1 ops0 f j with
  | none=>
   rw [hg] at h'
   simp only [X4] at h'
   refine wpList_step fun Kn hKn=>?_
   rw [if_neg (by rw [A4H hA hg];simp)]
   exact hKn _ _ (V6 hL n ops0 K Q hQ r _ _ _ (hA.putO hd.1 undef) hd.2 h')
  | some tb=>
   obtain⟨t,b⟩:=tb
   rw [hg] at h'
   simp only at h'
   have hft:f t=.bool b/\(ops0[j]?).bind (·.dst)=some t:=by
    unfold R1 at hg
    cases ho:ops0[j]? with
    | none=>rw [ho] at hg;cases hg
    | some o=>
     rw [ho] at hg
     simp only at hg
     cases hdo:o.dst with
     | none=>rw [hdo] at hg;cases hg
     | some s=>
      rw [hdo] at hg
      simp only at hg
      cases hfs:f s<;>rw [hfs] at hg<;>first
       | (cases hg;exact⟨hfs,by simp [hdo]⟩)
       | (simp at hg)
   have hu:upd f t (.bool b)=f:=A8L hft.1
   have htn:a.tmps[t]?=some (.bool b):=by
    have h1:=hA.2.2 t
    rw [hft.1] at h1
    rw [Array.getD_eq_getD_getElem?] at h1
    cases hx:a.tmps[t]? with
    | none=>rw [hx] at h1;cases h1
    | some x=>rw [hx] at h1;exact congrArg some h1
   have hw:Region.wanted ⟨dst,op,T,pos,after,some (j,want)⟩ (yielded ops0.toArray a.tmps)=(b==want):=by
    simp only [Region.wanted,yielded,List.getElem?_toArray,hft.2,Option.bind_some,htn]
    cases b<;>cases want<;>rfl
   have yes:vOp P L T op f w (fun v w'=>A15 f dst v fun f'=>B0h P L ops0 r f' w' K)->(b==want)=true->wpList P ops0.toArray Q (⟨dst,op,T,pos,after,some (j,want)⟩::r) a w:=by
    intro h2 he
    have hg:=A1F hL T op f w _ h2 dst pos after (some (j,want))
    refine wpList_step fun Kn hKn=>?_
    rw [if_pos (by rw [hw];exact he)]
    unfold Oper.wp
    rw [hA.eval]
    refine hg.upon _ _ _ _ fun v w' hk=>hKn _ _ ?_
    rw [X4] at hk
    exact V6 hL n ops0 K Q hQ r _ _ _ (hA.putO hd.1 v) hd.2 hk
   have no:A15 f dst undef (fun f'=>B0h P L ops0 r f' w K)->(b==want)=false->wpList P ops0.toArray Q (⟨dst,op,T,pos,after,some (j,want)⟩::r) a w:=by
    intro h2 he
    refine wpList_step fun Kn hKn=>?_
    rw [if_neg (by rw [hw,he];simp)]
    refine hKn _ _ ?_
    rw [X4] at h2
    exact V6 hL n ops0 K Q hQ r _ _ _ (hA.putO hd.1 undef) hd.2 h2
   cases b<;>cases want<;>simp only [cond_true,cond_false,hu] at h'
   ·exact yes h' rfl
   ·exact no h' rfl
   ·exact no h' rfl
   ·exact yes h' rfl
theorem B0o {f:Fr}:∀ {l:List (Nat × Value)},B5B f l->∀ {t:Nat} {v:Value},lk l t=some v->f t=v
 | (s,v')::r,⟨h1,h2⟩,t,v,h=>by
  simp only [lk] at h
  cases hb:Nat.beq t s with
  | true=>rw [hb] at h;have:=Nat.eq_of_beq_eq_true hb;subst this;cases h;exact h1
  | false=>rw [hb] at h;exact B0o h2 h
theorem A7O {f:Fr} {l:List (Nat × Value)} (h:B5B f l):mk l f=f:=by
 funext t
 unfold mk
 cases hl:lk l t with
 | none=>rfl
 | some v=>exact (B0o h hl).symm
def B8j (n:Nat) (K:Exit->Fr->World->Prop) (e:Exit) (a:Act) (w:World):Prop:=∃ f,Agree n a f/\K e f w
theorem X5 (hL:L.Ok P) (n:Nat):∀ (c:Code) (K:Exit->Fr->World->Prop) (a:Act) (f:Fr) (w:World),Agree n a f->R2 n c=true->A27 P L c f w K->c.wp P (B8j n K) a w:=by
 intro c
 induction c with
 | skip=>intro K a f w hA _ h;exact wp_skip ⟨f,hA,h⟩
 | region id ops d=>
  intro K a f w hA hc h
  cases d with
  | true=>
   have h':Drawn P id ops f w (K .normal):=h
   exact wp_mono (h'.wp n a hc hA) fun e a w ⟨he,f',h1,h2⟩=>by subst he;exact⟨f',h1,h2⟩
  | false=>
   have h':B0h P L ops.toList ops.toList f w (K .normal):=h
   have:=V6 hL n ops.toList (K .normal) (B8j n K) (fun a f w h1 h2=>⟨f,h1,h2⟩) ops.toList a f w hA hc h'
   exact wp_region_list (by simpa using this)
 | seq x y ihx ihy=>
  intro K a f w hA hc h
  simp only [R2,Bool.and_eq_true] at hc
  have h':A27 P L x f w (B8h (A27 P L y) K):=h
  refine wp_seq (wp_mono (ihx _ a f w hA hc.1 h') fun e a1 w1 ⟨f1,h1,h2⟩=>?_)
  cases e with
  | normal=>exact ihy K a1 f1 w1 h1 hc.2 h2
  | _=>exact⟨f1,h1,h2⟩
 | cond x y z ihy ihz=>
  intro K a f w hA hc h
  simp only [R2,Bool.and_eq_true] at hc
  have h':(match ev f x with
   | .bool t=>Bool.rec (motive:=fun _=>Prop) (A27 P L z f w K) (A27 P L y f w K) t
   | _=>False):=h
  split at h'
  ·rename_i t e
   refine wp_cond (t:=t) (by rw [hA.eval];exact e) ?_
   cases t
   ·exact ihz K a f w hA hc.2 h'
   ·exact ihy K a f w hA hc.1 h'
  ·exact h'.elim
 | block id b ih=>
  intro K a f w hA hc h
  refine wp_block (wp_mono (ih _ a f w hA hc h) fun e a1 w1 ⟨f1,h1,h2⟩=>?_)
  cases e with
  | exit i=>
   have h3:cond (Nat.beq i id) (K .normal f1 w1) (K (.exit i) f1 w1):=h2
   show if i=id then _ else _
   cases hb:Nat.beq i id with
   | true=>rw [hb] at h3;rw [if_pos (Nat.eq_of_beq_eq_true hb)];exact⟨f1,h1,h3⟩
   | false=>rw [hb] at h3;rw [if_neg (fun e=>by subst e;simp at hb)];exact⟨f1,h1,h3⟩
  | _=>exact⟨f1,h1,h2⟩
 | loop b ih=>
  intro K a f w hA hc h
  obtain⟨α,st,inv,μ,x0,hf,hi,hr⟩:=h
  refine wp_loop_ghost (fun k a2 w2=>∃ x2 f2,Agree n a2 f2/\B5B f2 (st x2)/\inv x2 w2/\μ x2 w2=k) (μ x0 w) ⟨x0,f,hA,hf,hi,rfl⟩ ?_
  rintro k a2 w2 ⟨x2,f2,hA2,hf2,hi2,rfl⟩
  have h3:=hr x2 w2 f2 hi2
  rw [A7O hf2] at h3
  refine wp_mono (ih _ a2 f2 w2 hA2 hc h3) fun e a3 w3 ⟨f3,h4,h5⟩=>?_
  cases e with
  | normal=>
   obtain⟨x3,h6,h7,h8⟩:=h5
   exact⟨μ x3 w3,h8,x3,f3,h4,h6,h7,rfl⟩
  | _=>exact⟨f3,h4,h5⟩
 | rangeFunc=>intro K a f w hA hc h;exact h.elim
 | exit id=>intro K a f w hA _ h;exact wp_exit ⟨f,hA,h⟩
 | scope=>intro K a f w hA hc h;exact h.elim
 | label=>intro K a f w hA hc h;exact wp_label ⟨f,hA,h⟩
 | goto=>intro K a f w hA hc h;exact h.elim
 | ret=>intro K a f w hA hc h;exact wp_ret ⟨f,hA,h⟩
 | refuse=>intro K a f w hA hc h;exact h.elim
theorem A17 (hL:L.Ok P) (n:Nat) (a:Act) (f:Fr) (w:World) (hA:Agree n a f):
  ∀ (rs:List ResultVar) (vs:List Value) (K:List Value->Prop),B0i L f w rs vs K->
   ∃ l,(rs.mapM (fun | .tmp t=>pure (a.tmps.getD t undef) | .cell x t=>do loadVar t (<-asAddr (a.tmps.getD x undef))):Sem (List Value)).run P w=.ok l w/\K (vs.reverse++l)
 | [],vs,K,h=>⟨[],rfl,by rw [List.append_nil];exact h⟩
 | .tmp t::r,vs,K,h=>by
  simp only [B0i,A2o] at h
  obtain⟨l,h1,h2⟩:=A17 hL n a f w hA r _ K h
  refine⟨f t::l,?_,by simpa using h2⟩
  simp only [List.mapM_cons,Sem.run_bind,Sem.run_pure,Result.andThen_ok,h1,hA.2.2 t]
 | .cell x t::r,vs,K,h=>by
  have ht:=hL.ty t
  have hx:=hA.2.2 x
  have key:∀ (p:Addr) (v:Value),f x=.pointer (some p)->(loadVar t p).run P w=.ok v w->B0i L f w r (v::vs) K->
    ∃ l,((ResultVar.cell x t::r).mapM (fun | .tmp t=>pure (a.tmps.getD t undef) | .cell x t=>do loadVar t (<-asAddr (a.tmps.getD x undef))):Sem (List Value)).run P w=.ok l w/\K (vs.reverse++l):=by
   intro p v e hr hk
   obtain⟨l,h1,h2⟩:=A17 hL n a f w hA r _ K hk
   refine⟨v::l,?_,by simpa using h2⟩
   have hax:(asAddr (a.tmps.getD x undef)).run P w=.ok p w:=by rw [hx,e];rfl
   simp only [List.mapM_cons,Sem.run_bind,hax,hr,Result.andThen_ok,Sem.run_pure,h1]
  simp only [B0i] at h
  generalize hd:L.ty t=d at h ht
  generalize he:f x=vx at h key
  cases vx with
  | pointer p=>
   cases p with
   | none=>cases d<;>exact h.elim
   | some p=>
    cases d with
    | none=>exact h.elim
    | array n e esz z=>
     obtain⟨cs,h1,h2,h3⟩:=h
     exact key p _ rfl (O4 ht.1 rfl (A28 ht.2.1) h1 h2) h3
    | struct fs z=>
     obtain⟨cs,h1,h2,h3⟩:=h
     obtain⟨⟨F,hu,_⟩,hz⟩:=ht
     exact key p _ rfl (O4 hu rfl (A28 hz) h1 h2) h3
    | int k=>obtain⟨v,h1,h2⟩:=h;exact key p _ rfl (E0 ht.1 rfl h1) h2
    | str=>obtain⟨v,h1,h2⟩:=h;exact key p _ rfl (E0 ht.1 rfl h1) h2
    | bool=>obtain⟨v,h1,h2⟩:=h;exact key p _ rfl (E0 ht.1 rfl h1) h2
    | slice e s=>obtain⟨v,h1,h2⟩:=h;exact key p _ rfl (E0 ht.1 rfl h1) h2
    | one z=>obtain⟨v,h1,h2⟩:=h;obtain⟨⟨u,hu,hg⟩,_⟩:=ht;exact key p _ rfl (E0 hu hg h1) h2
  | _=>cases d<;>exact h.elim
theorem B3Z (l:List Value):(if h:l.toArray.size=1 then l.toArray[0] else .tuple l.toArray)=B0j l:=by
 match l with
 | []=>rfl
 | [v]=>rfl
 | v::u::r=>rw [dif_neg (by simp)];rfl
theorem Q7 (hL:L.Ok P) (n:Nat) (a:Act) (f:Fr) (w:World) (hA:Agree n a f) (fn:Func) (R:Ending->World->Prop)
  (h:B0i L f w fn.results.toList [] fun vs=>R (.returned (B0j vs)) w):∃ v,(results fn a.tmps).run P w=.ok v w/\R (.returned v) w:=by
 obtain⟨l,h1,h2⟩:=A17 hL n a f w hA _ _ _ h
 refine⟨B0j l,?_,by simpa using h2⟩
 unfold results
 rw [Sem.run_bind,Array.mapM_eq_mapM_toList,Sem.run_map]
 refine (congrArg (fun (r:Result (List Value))=>(r.andThen fun a w'=>Result.ok a.toArray w').andThen fun (a:Array Value) w'=>Sem.run P (pure (if h:a.size=1 then a[0] else .tuple a)) w') h1).trans ?_
 simp only [Result.andThen_ok,Sem.run_pure]
 rw [<-B3Z]
theorem A8M (hL:L.Ok P) {k:Nat} {fn:Func} {c:Code} {args:List Value} {w:World} {R:Ending->World->Prop}
  (hf:P.funcs[k]?=some fn) (hb:fn.body=some c) (ha:Nat.ble args.length fn.ntmps=true) (hc:R2 fn.ntmps c=true)
  (h:A27 P L c (A7J args) w (fnK L fn.results R)):Calls P k args.toArray w R:=by
 refine calls_of_wp hf hb ?_
 have hn:=Nat.le_of_ble_eq_true ha
 have hA:Agree fn.ntmps { tmps:=args.toArray++Array.replicate (fn.ntmps-args.toArray.size) undef,defers:=[] } (A7J args):=by
  refine⟨rfl,by simp;omega,fun t=>?_⟩
  unfold A7J
  rw [Array.getD_eq_getD_getElem?,List.getD_eq_getElem?_getD]
  rcases Nat.lt_or_ge t args.length with h1 | h1
  ·rw [Array.getElem?_append_left (by simpa using h1)]
   simp
  ·rw [Array.getElem?_append_right (by simpa using h1),List.getElem?_eq_none h1]
   simp only [Array.getElem?_replicate]
   split<;>rfl
 refine wp_mono (X5 hL _ c _ _ _ w hA hc h) fun e a w ⟨f,h1,h2⟩=>?_
 cases e with
 | normal=>exact⟨h1.1,Q7 hL _ a f w h1 fn R h2⟩
 | ret=>exact⟨h1.1,Q7 hL _ a f w h1 fn R h2⟩
 | _=>exact h2.elim
theorem R4 {b:Bool} {T F:Prop} (h1:b=true->T) (h2:b=false->F):Bool.rec (motive:=fun _=>Prop) F T b:=by
 cases b
 ·exact h2 rfl
 ·exact h1 rfl
theorem B6 {b:Bool} {T F:Prop} (h:b=true) (h1:T):Bool.rec (motive:=fun _=>Prop) F T b:=by subst h;exact h1
theorem B4 {b:Bool} {T F:Prop} (h:b=false) (h1:F):Bool.rec (motive:=fun _=>Prop) F T b:=by subst h;exact h1
theorem dt {p:Prop} [Decidable p] {T F:Prop} (h:p) (h1:T):Bool.rec (motive:=fun _=>Prop) F T (decide p):=B6 (decide_eq_true h) h1
theorem df {p:Prop} [Decidable p] {T F:Prop} (h:¬ p) (h1:F):Bool.rec (motive:=fun _=>Prop) F T (decide p):=B4 (decide_eq_false h) h1
end
#print axioms A8M
end Go.Vc
end
section
namespace Go.Vc
open Go Go.RowKit
def Fut (S:Nat->Prop) (w:World) (S':Nat->Prop) (w':World):Prop:=(∀ b,S b->S' b)/\∀ b,S b->w'.heap[b]?=w.heap[b]?
theorem Fut.refl (S:Nat->Prop) (w:World):Fut S w S w:=⟨fun _ h=>h,fun _ _=>rfl⟩
theorem Fut.trans {S S' S'':Nat->Prop} {w w' w'':World} (h:Fut S w S' w') (k:Fut S' w' S'' w''):Fut S w S'' w'':=
 ⟨fun b hb=>k.1 b (h.1 b hb),fun b hb=>(k.2 b (h.1 b hb)).trans (h.2 b hb)⟩
def ext (S:Nat->Prop) (w w':World):Nat->Prop:=fun b=>S b\/(w.heap.size<=b/\b<w'.heap.size)
abbrev LB:=Nat × Nat × List Value
def Blk (w:World) (g T:Nat) (cs:List Value):Prop:=w.heap[g]?=some (.cells cs.toArray T (0,0))
def Locs (S:Nat->Prop) (n0:Nat) (w:World):List LB->Prop
 | []=>True
 | (g,T,cs)::r=>n0<=g/\¬ S g/\Blk w g T cs/\(∀ x∈r,x.1≠g)/\Locs S n0 w r
theorem Blk.lt {w:World} {g T:Nat} {cs:List Value} (h:Blk w g T cs):g<w.heap.size:=by
 rcases Nat.lt_or_ge g w.heap.size with hl | hg
 ·exact hl
 ·unfold Blk at h;rw [Array.getElem?_eq_none hg] at h;cases h
theorem Blk.cell {w:World} {g T:Nat} {cs:List Value} (h:Blk w g T cs) (i:Nat):w.cell? ⟨g,i,none⟩=cs[i]?:=by
 unfold Blk at h
 simp [World.cell?,h]
theorem Blk.frozen {w:World} {g T:Nat} {cs:List Value} (h:Blk w g T cs) (i:Nat):w.frozen? ⟨g,i,none⟩=false:=by
 unfold Blk at h
 simp [World.frozen?,h]
theorem Blk.of_eq {w w':World} {g T:Nat} {cs:List Value} (h:Blk w g T cs) (e:w'.heap[g]?=w.heap[g]?):Blk w' g T cs:=e.trans h
theorem New.below {w w':World} {cs:List Value} {T g:Nat} (h:New w cs T g w'):Below w.heap.size w w':=by
 obtain⟨rfl,rfl⟩:=h
 exact (Below.refl _ _).alloc (Nat.le_refl _) _
theorem New.blk {w w':World} {cs:List Value} {T g:Nat} (h:New w cs T g w'):Blk w' g T cs:=by
 obtain⟨rfl,rfl⟩:=h
 exact heap_alloc_new w _
theorem Locs.mono {S S':Nat->Prop} {n0:Nat} {w w':World}:∀ {l:List LB},Locs S n0 w l->(∀ x∈l,w'.heap[x.1]?=w.heap[x.1]?)->(∀ x∈l,S' x.1->S x.1)->Locs S' n0 w' l
 | [],_,_,_=>trivial
 | (g,T,cs)::r,⟨h1,h2,h3,h4,h5⟩,he,hs=>
  ⟨h1,fun h=>h2 (hs _ (List.mem_cons_self ..) h),h3.of_eq (he _ (List.mem_cons_self ..)),h4,
   h5.mono (fun x hx=>he x (List.mem_cons_of_mem _ hx)) (fun x hx=>hs x (List.mem_cons_of_mem _ hx))⟩
theorem Locs.lt {S:Nat->Prop} {n0:Nat} {w:World}:∀ {l:List LB},Locs S n0 w l->∀ x∈l,x.1<w.heap.size
 | (g,T,cs)::r,⟨h1,h2,h3,h4,h5⟩,x,hx=>by
  cases hx with
  | head=>exact h3.lt
  | tail _ h=>exact h5.lt x h
structure Ctx (S0:Nat->Prop) (w0:World) (S:Nat->Prop) (w:World) (l:List LB):Prop where
 below:Below w0.heap.size w0 w
 sub:∀ b,S0 b->S b
 new:∀ b,S b->S0 b\/w0.heap.size<=b
 lt:∀ b,S b->b<w.heap.size
 locs:Locs S w0.heap.size w l
section
variable {S0 S:Nat->Prop} {w0 w w':World} {l:List LB}
theorem Ctx.start (w0:World) (S0:Nat->Prop) (h:∀ b,S0 b->b<w0.heap.size):Ctx S0 w0 S0 w0 []:=
 ⟨Below.refl _ _,fun _ h=>h,fun _ h=>.inl h,h,trivial⟩
theorem B0p (hlt:∀ b,S b->b<w.heap.size) (h:Below w.heap.size w w'):Fut S w (ext S w w') w':=
 ⟨fun _ hb=>.inl hb,fun b hb=>h.block b (hlt b hb)⟩
theorem Ctx.loc (hc:Ctx S0 w0 S w l) {cs:List Value} {T g:Nat} (hN:New w cs T g w'):Ctx S0 w0 S w' ((g,T,cs)::l)/\Fut S w S w':=by
 have hb:=hN.below
 have hg:g=w.heap.size:=hN.1
 have hfut:Fut S w S w':=⟨fun _ h=>h,fun b h=>hb.block b (hc.lt b h)⟩
 refine⟨⟨hc.below.trans (hb.mono hc.below.size),hc.sub,hc.new,fun b h=>Nat.lt_of_lt_of_le (hc.lt b h) hb.size,?_⟩,hfut⟩
 refine⟨by rw [hg];exact hc.below.size,fun h=>by have:=hc.lt _ h;omega,hN.blk,fun x hx e=>?_,?_⟩
 ·have:=hc.locs.lt x hx
  omega
 ·exact hc.locs.mono (fun x hx=>hb.block _ (hc.locs.lt x hx)) (fun _ _ h=>h)
theorem Ctx.call (hc:Ctx S0 w0 S w l) (hb:Below w.heap.size w w'):Ctx S0 w0 (ext S w w') w' l/\Fut S w (ext S w w') w':=by
 refine⟨⟨hc.below.trans (hb.mono hc.below.size),fun b h=>.inl (hc.sub b h),fun b h=>?_,fun b h=>?_,?_⟩,B0p hc.lt hb⟩
 ·rcases h with h | h
  ·exact hc.new b h
  ·exact .inr (Nat.le_trans hc.below.size h.1)
 ·rcases h with h | h
  ·exact Nat.lt_of_lt_of_le (hc.lt b h) hb.size
  ·exact h.2
 ·refine hc.locs.mono (fun x hx=>hb.block _ (hc.locs.lt x hx)) (fun x hx h=>?_)
  rcases h with h | h
  ·exact h
  ·have:=hc.locs.lt x hx
   omega
theorem Ctx.quiet (hc:Ctx S0 w0 S w l) (hb:Below w.heap.size w w'):Ctx S0 w0 S w' l/\Fut S w S w':=by
 refine⟨⟨hc.below.trans (hb.mono hc.below.size),hc.sub,hc.new,fun b h=>Nat.lt_of_lt_of_le (hc.lt b h) hb.size,?_⟩,⟨fun _ h=>h,fun b h=>hb.block b (hc.lt b h)⟩⟩
 exact hc.locs.mono (fun x hx=>hb.block _ (hc.locs.lt x hx)) (fun _ _ h=>h)
end
theorem Locs.get {S:Nat->Prop} {n0:Nat} {w:World}:∀ {l:List LB},Locs S n0 w l->∀ {k g T:Nat} {cs:List Value},l[k]?=some (g,T,cs)->Blk w g T cs
 | (g,T,cs)::r,⟨_,_,h3,_,h5⟩,k,g',T',cs',h=>by
  cases k with
  | zero=>simp at h;obtain⟨rfl,rfl,rfl⟩:=h;exact h3
  | succ k=>exact h5.get (by simpa using h)
theorem Ctx.blk {S0 S:Nat->Prop} {w0 w:World} {l:List LB} (hc:Ctx S0 w0 S w l) (k:Nat) {g T:Nat} {cs:List Value} (h:l[k]?=some (g,T,cs)):Blk w g T cs:=hc.locs.get h
theorem Ctx.cell {S0 S:Nat->Prop} {w0 w:World} {l:List LB} (hc:Ctx S0 w0 S w l) (k:Nat) {g T:Nat} {cs:List Value} (h:l[k]?=some (g,T,cs)) (i:Nat) {v:Value} (hv:cs[i]?=some v):w.cell? ⟨g,i,none⟩=some v:=
 ((hc.blk k h).cell i).trans hv
theorem C3 {w:World} {g T:Nat} {cs:List Value} (h:Blk w g T cs) (o:Nat):∀ (xs:List Value) (i:Nat),(∀ j v,xs[j]?=some v->cs[o+i+j]?=some v)->cellsAt w ⟨g,o,none⟩ xs i
 | [],_,_=>trivial
 | v::r,i,hx=>by
  refine⟨?_,C3 h o r (i+1) (fun j u hj=>?_)⟩
  ·rw [Addr.add_lit,h.cell]
   simpa using hx 0 v rfl
  ·have:=hx (j+1) u (by simpa using hj)
   rwa [show o+i+(j+1)=o+(i+1)+j from by omega] at this
theorem Ctx.cells {S0 S:Nat->Prop} {w0 w:World} {l:List LB} (hc:Ctx S0 w0 S w l) (k:Nat) {g T:Nat} {cs:List Value} (h:l[k]?=some (g,T,cs)):cellsAt w ⟨g,0,none⟩ cs 0:=
 C3 (hc.blk k h) 0 cs 0 (fun j v hj=>by simpa using hj)
theorem Ctx.cellsAt {S0 S:Nat->Prop} {w0 w:World} {l:List LB} (hc:Ctx S0 w0 S w l) (k:Nat) {g T:Nat} {cs:List Value} (h:l[k]?=some (g,T,cs)) (o:Nat) (xs:List Value) (hx:(cs.drop o).take xs.length=xs):Go.Vc.cellsAt w ⟨g,o,none⟩ xs 0:=
 C3 (hc.blk k h) o xs 0 (fun j v hj=>by
  rw [<-hx] at hj
  rw [List.getElem?_take] at hj
  split at hj
  ·rw [List.getElem?_drop] at hj
   simpa using hj
  ·cases hj)
theorem A2U {w:World} {g T:Nat} {cs:List Value} (h:Blk w g T cs) (o:Nat):∀ (xs:List Value) (i:Nat),o+i+xs.length<=cs.length->(∀ v∈xs,v.oneCell'=true)->G5 w ⟨g,o,none⟩ xs i
 | [],_,_,_=>trivial
 | v::r,i,hl,h1=>by
  simp only [List.length_cons] at hl
  refine⟨⟨cs[o+i]'(by omega),?_⟩,?_,h1 v (List.mem_cons_self ..),A2U h o r (i+1) (by omega) (fun u hu=>h1 u (List.mem_cons_of_mem _ hu))⟩
  ·rw [Addr.add_lit,h.cell]
   exact List.getElem?_eq_getElem (by omega)
  ·rw [Addr.add_lit];exact h.frozen _
def G9:List Value->Bool
 | []=>true
 | v::r=>v.oneCell'&&G9 r
theorem M6:∀ {l:List Value},G9 l=true->∀ v∈l,v.oneCell'=true
 | u::r,h,v,hv=>by
  simp only [G9,Bool.and_eq_true] at h
  cases hv with
  | head=>exact h.1
  | tail _ h'=>exact M6 h.2 v h'
theorem Ctx.may {S0 S:Nat->Prop} {w0 w:World} {l:List LB} (hc:Ctx S0 w0 S w l) (k:Nat) {g T:Nat} {cs:List Value} (h:l[k]?=some (g,T,cs)) (o:Nat) (xs:List Value) (hl:o+xs.length<=cs.length) (h1:G9 xs=true):G5 w ⟨g,o,none⟩ xs 0:=
 A2U (hc.blk k h) o xs 0 (by omega) (M6 h1)
theorem V7 {g T:Nat} (o:Nat):∀ (xs:List Value) (w:World) (i:Nat) (cs:List Value),Blk w g T cs->
  Blk (stored w ⟨g,o,none⟩ xs i) g T (D3 cs (o+i) xs)/\(∀ b,b≠g->(stored w ⟨g,o,none⟩ xs i).heap[b]?=w.heap[b]?)/\
   (stored w ⟨g,o,none⟩ xs i).heap.size=w.heap.size/\(stored w ⟨g,o,none⟩ xs i).os=w.os/\(stored w ⟨g,o,none⟩ xs i).tape=w.tape/\(stored w ⟨g,o,none⟩ xs i).output=w.output
 | [],w,i,cs,h=>⟨h,fun _ _=>rfl,rfl,rfl,rfl,rfl⟩
 | v::r,w,i,cs,h=>by
  have hb:Blk (w.setCell ((⟨g,o,none⟩:Addr).add i) v) g T (cs.set (o+i) v):=by
   rw [Addr.add_lit]
   unfold Blk at h ⊢
   simp only [World.setCell,Array.getElem?_modify]
   rw [if_pos trivial,h]
   simp
  obtain⟨h1,h2,h3,h4,h5,h6⟩:=V7 o r _ (i+1) _ hb
  refine⟨h1,fun b hne=>(h2 b hne).trans ?_,h3.trans (by simp),h4.trans rfl,h5.trans rfl,h6.trans rfl⟩
  rw [Addr.add_lit]
  exact Below.heap_setCell w _ v b hne
def J6:List LB->Nat->List Value->List LB
 | [],_,_=>[]
 | (g,T,_)::r,0,cs=>(g,T,cs)::r
 | x::r,k+1,cs=>x::J6 r k cs
theorem O5:∀ {l:List LB} {k:Nat} {cs:List Value} {x:LB},x∈J6 l k cs->∃ y∈l,y.1=x.1
 | (g,T,c)::r,0,cs,x,h=>by
  simp only [J6] at h
  cases h with
  | head=>exact⟨(g,T,c),List.mem_cons_self ..,rfl⟩
  | tail _ h=>exact⟨x,List.mem_cons_of_mem _ h,rfl⟩
 | y::r,k+1,cs,x,h=>by
  simp only [J6] at h
  cases h with
  | head=>exact⟨_,List.mem_cons_self ..,rfl⟩
  | tail _ h=>obtain⟨z,h1,h2⟩:=O5 h;exact⟨z,List.mem_cons_of_mem _ h1,h2⟩
theorem Locs.set {S:Nat->Prop} {n0:Nat} {w w':World}:∀ {l:List LB} {k g T:Nat} {cs cs':List Value},Locs S n0 w l->l[k]?=some (g,T,cs)->Blk w' g T cs'->(∀ b,b≠g->w'.heap[b]?=w.heap[b]?)->Locs S n0 w' (J6 l k cs')
 | (g',T',c)::r,k,g,T,cs,cs',⟨h1,h2,h3,h4,h5⟩,hk,hb,ho=>by
  cases k with
  | zero=>
   simp at hk
   obtain⟨rfl,rfl,rfl⟩:=hk
   exact⟨h1,h2,hb,h4,h5.mono (fun x hx=>ho _ (h4 x hx)) (fun _ _ h=>h)⟩
  | succ k=>
   have hk':r[k]?=some (g,T,cs):=by simpa using hk
   have hne:g≠g':=h4 _ (List.mem_of_getElem? hk')
   refine⟨h1,h2,h3.of_eq (ho _ (Ne.symm hne)),fun x hx=>?_,h5.set hk' hb ho⟩
   obtain⟨y,hy,e⟩:=O5 hx
   rw [<-e];exact h4 y hy
theorem Locs.notS {S:Nat->Prop} {n0:Nat} {w:World}:∀ {l:List LB},Locs S n0 w l->∀ {k g T:Nat} {cs:List Value},l[k]?=some (g,T,cs)->¬ S g/\n0<=g
 | (g,T,cs)::r,⟨h0,h2,h3,_,h5⟩,k,g',T',cs',h=>by
  cases k with
  | zero=>simp at h;obtain⟨rfl,rfl,rfl⟩:=h;exact⟨h2,h0⟩
  | succ k=>exact h5.notS (by simpa using h)
theorem Ctx.set {S0 S:Nat->Prop} {w0 w w':World} {l:List LB} (hc:Ctx S0 w0 S w l) (k:Nat) {g T:Nat} {cs:List Value} (h:l[k]?=some (g,T,cs)) {o:Nat} {xs:List Value} (hS:E2 w ⟨g,o,none⟩ xs w'):
  Ctx S0 w0 S w' (J6 l k (D3 cs o xs))/\Fut S w S w':=by
 obtain⟨h1,h2,h3,h4,h5,h6⟩:=V7 o xs w 0 cs (hc.blk k h)
 rw [<-(show w'=_ from hS)] at h1 h2 h3 h4 h5 h6
 obtain⟨hn,hge⟩:=hc.locs.notS h
 refine⟨⟨?_,hc.sub,hc.new,fun b hb=>by rw [h3];exact hc.lt b hb,hc.locs.set h (by simpa using h1) h2⟩,⟨fun _ h=>h,fun b hb=>h2 b (fun e=>hn (e▸hb))⟩⟩
 exact hc.below.trans ⟨h4,h5,h6,by omega,fun b hb=>h2 b (by omega)⟩
def Row (S:Nat->Prop) (w:World) (A:Option Addr) (n cap:Nat) (xs:List Value):Prop:=
 n<=cap/\cap<=maxLen/\(xs≠[]->∃ ad,A=some ad/\S ad.block/\∀ j u,xs[j]?=some u->w.cell? (ad.add j)=some u)
theorem P6 (a:Addr) (n:Nat):(a.add n).block=a.block:=by unfold Addr.add;split<;>rfl
theorem add_add (a:Addr) (i j:Nat):(a.add i).add j=a.add (i+j):=by
 unfold Addr.add
 by_cases hi:i=0<;>by_cases hj:j=0<;>simp [hi,hj,Nat.add_assoc]
theorem Row.fut {S S':Nat->Prop} {w w':World} {A:Option Addr} {n cap:Nat} {xs:List Value} (h:Row S w A n cap xs) (f:Fut S w S' w'):Row S' w' A n cap xs:=
 ⟨h.1,h.2.1,fun hx=>by
  obtain⟨ad,e,hs,hc⟩:=h.2.2 hx
  exact⟨ad,e,f.1 _ hs,fun j u hu=>(World.cell?_of_block (f.2 _ (by rw [P6];exact hs))).trans (hc j u hu)⟩⟩
theorem Row.get {S:Nat->Prop} {w:World} {A:Option Addr} {n cap:Nat} {xs:List Value} (h:Row S w A n cap xs) {i:Nat} (hi:i<xs.length):
  ∃ ad,A=some ad/\∀ j u,xs[j]?=some u->w.cell? (ad.add j)=some u:=by
 obtain⟨ad,e,_,hc⟩:=h.2.2 (fun e=>by subst e;simp at hi)
 exact⟨ad,e,hc⟩
theorem A0E {w:World} {ad:Addr} {xs:List Value} (hc:∀ j u,xs[j]?=some u->w.cell? (ad.add j)=some u) (o:Nat):∀ (ys:List Value) (i:Nat),(∀ j u,ys[j]?=some u->xs[o+i+j]?=some u)->Go.Vc.cellsAt w (ad.add o) ys i
 | [],_,_=>trivial
 | v::r,i,h=>by
  refine⟨?_,A0E hc o r (i+1) (fun j u hj=>?_)⟩
  ·rw [add_add];exact hc _ _ (by simpa using h 0 v rfl)
  ·have:=h (j+1) u (by simpa using hj)
   rwa [show o+i+(j+1)=o+(i+1)+j from by omega] at this
def C7 (v:Value) (w:World) (e:Ending) (w':World):Prop:=e=.returned v/\Below w.heap.size w w'
theorem B7 {a b:Bool} (h:a=b):Ending.returned (.bool a)=.returned (.bool b):=by rw [h]
theorem U5 {k:IntKind} {a b:Int} (h:a=b):Ending.returned (.int k a)=.returned (.int k b):=by rw [h]
theorem J7 {b:Int} {B:Prop} (h:b≠0) (k:B):b≠0/\B:=⟨h,k⟩
theorem C2 {P:Program} {n:Nat} {args:List Value} {w:World} {v:Value} {K:Value->World->Prop} (h:Calls P n args.toArray w (C7 v w))
  (k:∀ w',Below w.heap.size w w'->K v w'):CallVc P n args w K:=
 ⟨h.mono fun _ w' ⟨he,hb⟩=>⟨v,he,k w' hb⟩⟩
theorem Ctx.out {S0 S:Nat->Prop} {w0 w:World} {l:List LB} (hc:Ctx S0 w0 S w l):Fut S w (ext S0 w0 w) w:=
 ⟨fun b hb=>by
  rcases hc.new b hb with h | h
  ·exact .inl h
  ·exact .inr ⟨h,hc.lt b hb⟩,fun _ _=>rfl⟩
section
variable {S0 S:Nat->Prop} {w0 w:World} {l:List LB} {g T:Nat} {cs xs:List Value} {o:Nat} {K:World->Prop}
theorem Ctx.s (hc:Ctx S0 w0 S w l) (k:Nat) (h:l[k]?=some (g,T,cs)) (hk:∀ w',E2 w ⟨g,o,none⟩ xs w'->Ctx S0 w0 S w' (J6 l k (D3 cs o xs))->K w') (hl:Nat.ble (o+xs.length) cs.length=true:=by rfl) (h1:G9 xs=true:=by rfl):G5 w ⟨g,o,none⟩ xs 0/\∀ w',E2 w ⟨g,o,none⟩ xs w'->K w':=
 ⟨hc.may k h o xs (Nat.le_of_ble_eq_true hl) h1,fun w' hS=>hk w' hS (hc.set k h hS).1⟩
theorem Ctx.s' (hc:Ctx S0 w0 S w l) (k:Nat) (h:l[k]?=some (g,T,cs)) (hk:∀ w',E2 w ⟨g,o,none⟩ xs w'->Ctx S0 w0 S w' (J6 l k (D3 cs o xs))->K w') (hl:Nat.ble (o+xs.length) cs.length=true:=by rfl) (h1:G9 xs=true:=by rfl):G5 w ⟨g,o,none⟩ xs 0/\∀ w',E2 w ⟨g,o,none⟩ xs w'->True/\K w':=
 ⟨hc.may k h o xs (Nat.le_of_ble_eq_true hl) h1,fun w' hS=>⟨trivial,hk w' hS (hc.set k h hS).1⟩⟩
theorem Ctx.c (hc:Ctx S0 w0 S w l) (k:Nat) (h:l[k]?=some (g,T,cs)) {i:Nat} {v:Value} {K:Value->Prop} (hv:cs[i]?=some v) (hk:K v):∃ v,w.cell? ⟨g,i,none⟩=some v/\K v:=⟨v,hc.cell k h i hv,hk⟩
theorem Ctx.a (hc:Ctx S0 w0 S w l) (k:Nat) (h:l[k]?=some (g,T,cs)) {n:Nat} {K:List Value->Prop} (hn:cs.length=n) (hk:K cs):∃ ds:List Value,ds.length=n/\Go.Vc.cellsAt w ⟨g,0,none⟩ ds 0/\K ds:=⟨cs,hn,hc.cells k h,hk⟩
theorem Ctx.a' (hc:Ctx S0 w0 S w l) (k:Nat) (h:l[k]?=some (g,T,cs)) {n:Nat} {K:List Value->Prop} (hn:cs.length=n) (hk:K cs):∃ ds:List Value,ds.length=n/\Go.Vc.cellsAt w ⟨g,0,none⟩ ds 0/\True/\K ds:=⟨cs,hn,hc.cells k h,trivial,hk⟩
theorem Ctx.n (hc:Ctx S0 w0 S w l) {K:Nat->World->Prop} (hk:∀ g w',New w cs T g w'->Ctx S0 w0 S w' ((g,T,cs)::l)->K g w'):∀ g w',New w cs T g w'->K g w':=fun g w' h=>hk g w' h (hc.loc h).1
theorem Ctx.n' (hc:Ctx S0 w0 S w l) {K:Nat->World->Prop} (hk:∀ g w',New w cs T g w'->Ctx S0 w0 S w' ((g,T,cs)::l)->K g w'):∀ g w',New w cs T g w'->True/\K g w':=fun g w' h=>⟨trivial,hk g w' h (hc.loc h).1⟩
theorem Ctx.q (hc:Ctx S0 w0 S w l) {P:Program} {n:Nat} {args:List Value} {v:Value} {K:Value->World->Prop} (h:Calls P n args.toArray w (C7 v w)) (hk:∀ w',Below w.heap.size w w'->Ctx S0 w0 S w' l->K v w'):CallVc P n args w K:=C2 h fun w' hb=>hk w' hb (hc.quiet hb).1
theorem Ctx.q' (hc:Ctx S0 w0 S w l) {P:Program} {n:Nat} {args:List Value} {v:Value} {K:Value->World->Prop} (h:Calls P n args.toArray w (C7 v w)) (hk:∀ w',Below w.heap.size w w'->Ctx S0 w0 S w' l->K v w'):CallVc P n args w (fun v w'=>True/\K v w'):=C2 h fun w' hb=>⟨trivial,hk w' hb (hc.quiet hb).1⟩
end
end Go.Vc
end
section
namespace Go.Vc
open Go Go.RowKit
def bv (l:List UInt8):List Value:=l.map fun c=>.int .u8 (c.toNat:Int)
theorem A6B (l:List UInt8):(bv l).length=l.length:=List.length_map _
theorem A4I (l:List UInt8) (k:Nat) (h:k<l.length):(bv l)[k]?=some (.int .u8 ((l.getD k 0).toNat:Int)):=by
 unfold bv
 rw [List.getElem?_map,List.getElem?_eq_getElem h,List.getD_eq_getElem?_getD,List.getElem?_eq_getElem h]
 rfl
theorem A6C (a b:List UInt8):bv (a++b)=bv a++bv b:=List.map_append
theorem Row.below {S:Nat->Prop} {w w':World} {A:Option Addr} {n cap:Nat} {xs:List Value} (h:Row S w A n cap xs) (hb:Below w.heap.size w w'):Row S w' A n cap xs:=
 ⟨h.1,h.2.1,fun hx=>by
  obtain⟨ad,e,hs,hc⟩:=h.2.2 hx
  exact⟨ad,e,hs,fun j u hu=>cell_later hb (hc j u hu)⟩⟩
theorem Row.at {S:Nat->Prop} {w:World} {A:Option Addr} {n cap:Nat} {xs:List Value} (h:Row S w A n cap xs) {i:Nat} {v:Value} (hv:xs[i]?=some v):∃ ad,A=some ad/\w.cell? (ad.add i)=some v:=by
 obtain⟨ad,e,hc⟩:=h.get (i:=i) (by
  rcases Nat.lt_or_ge i xs.length with h | h
  ·exact h
  ·rw [List.getElem?_eq_none h] at hv;cases hv)
 exact⟨ad,e,hc i v hv⟩
theorem Row.sub {S S':Nat->Prop} {w:World} {A:Option Addr} {n cap:Nat} {xs:List Value} (h:Row S w A n cap xs) (hs:∀ b,S b->S' b):Row S' w A n cap xs:=
 ⟨h.1,h.2.1,fun hx=>by
  obtain⟨ad,e,h1,hc⟩:=h.2.2 hx
  exact⟨ad,e,hs _ h1,hc⟩⟩
section
variable {P:Program} {w:World} {K:Value->World->Prop}
theorem A1G {s d e:TypeId} {u:TypeDesc} (S:Nat->Prop) (hs:P.underlying s=some u) (hd:P.underlying d=some (.slice e)) (he:P.underlying e=some (.int .u8)) {t:ByteArray} (hl:t.size<=maxLen)
  (k:∀ g cap w',Below w.heap.size w w'->Row (ext S w w') w' (some ⟨g,0,none⟩) t.size cap (bv t.data.toList)->K (.slice (some ⟨g,0,none⟩) t.size cap) w'):
  ∃ v w',(Go.convert s d (.string t)).run P w=.ok v w'/\K v w':=by
 refine⟨_,_,Lib.run_convert_string_bytes w s d e t hs hd he,k _ _ _ (Lib.bytesWorld_below w e t) ⟨?_,?_,fun _=>⟨_,rfl,?_,?_⟩⟩⟩
 ·exact grownCap_ge w t.size 0 e
 ·exact grownCap_le_maxLen w t.size 0 e hl
 ·exact .inr ⟨Nat.le_refl _,by rw [Lib.bytesWorld_size];exact Nat.lt_succ_self _⟩
 ·intro j u hu
  have hj:j<t.data.toList.length:=by
   rcases Nat.lt_or_ge j t.data.toList.length with h | h
   ·exact h
   ·rw [List.getElem?_eq_none (by rw [A6B];exact h)] at hu;cases hu
  rw [A4I _ _ hj] at hu
  have e1:(⟨w.heap.size,0,none⟩:Addr).add j=⟨w.heap.size,j,none⟩:=by rw [Addr.add_lit,Nat.zero_add]
  rw [e1,Lib.bytesWorld_cell w e t j (by rw [Array.length_toList] at hj;exact hj)]
  exact hu
theorem A1H {s d e:TypeId} {S:Nat->Prop} {A:Option Addr} {n cap:Nat} {l:List UInt8} (hs:P.underlying s=some (.slice e)) (he:P.underlying e=some (.int .u8)) (hd:P.underlying d=some .string)
  (hR:Row S w A n cap (bv l)) (hn:n=l.length) (k:K (.string ⟨l.toArray⟩) w):∃ v w',(Go.convert s d (.slice A n cap)).run P w=.ok v w'/\K v w':=by
 subst hn
 cases A with
 | none=>
  cases l with
  | nil=>
   refine⟨_,_,run_convert_bytes_string w s d e none 0 cap hs he hd,?_⟩
   exact k
  | cons c r=>
   obtain⟨ad,h,_⟩:=hR.at (A4I (c::r) 0 (Nat.succ_pos _))
   cases h
 | some a=>
  refine⟨_,_,run_convert_bytes_back w s d e a cap l hs he hd (fun j hj=>?_),k⟩
  obtain⟨ad,h,hc⟩:=hR.at (A4I l j hj)
  cases h
  rw [hc,List.getD_eq_getElem?_getD,List.getElem?_eq_getElem hj]
  rfl
end
theorem A3B:∀ {l:List Value},(∀ v∈l,v.oneCell'=true)->G9 l=true
 | [],_=>rfl
 | v::r,h=>by
  simp only [G9,Bool.and_eq_true]
  exact⟨h v (List.mem_cons_self ..),A3B fun u hu=>h u (List.mem_cons_of_mem _ hu)⟩
structure Own (S:Nat->Prop) (n0:Nat) (w:World) (l:List LB) (e sz:Nat) (A:Option Addr) (n cap:Nat) (xs:List Value):Prop where
 row:w.ownsRow n0 e sz (.slice A n cap) n xs
 out:∀ a,A=some a->¬ S a.block/\∀ x∈l,x.1≠a.block
section
variable {S0 S:Nat->Prop} {w0 w w':World} {l:List LB} {e sz:Nat} {A:Option Addr} {n cap:Nat} {xs:List Value} {n0:Nat}
theorem Own.nil:Own S n0 w l e sz none 0 0 []:=⟨World.ownsRow_nil ..,fun a h=>by cases h⟩
theorem Own.size (h:Own S n0 w l e sz A n cap xs):xs.length=n*sz:=h.row.1
theorem Own.lt (h:Own S n0 w l e sz A n cap xs) {a:Addr} (e1:A=some a):n0<=a.block/\a.block<w.heap.size:=by
 subst e1
 exact h.row.lt a.block rfl
theorem Own.kept (h:Own S n0 w l e sz A n cap xs) (hb:∀ a,A=some a->w'.heap[a.block]?=w.heap[a.block]?):w'.ownsRow n0 e sz (.slice A n cap) n xs:=by
 obtain⟨h1,h2⟩:=h.row
 refine⟨h1,?_⟩
 rcases h2 with h2 | ⟨g,cp,cur,e1,h3,h4,h5⟩
 ·exact .inl h2
 ·refine .inr ⟨g,cp,cur,e1,h3,?_,h5⟩
  cases e1
  rw [hb _ rfl];exact h4
theorem Own.below (h:Own S n0 w l e sz A n cap xs) (hb:Below w.heap.size w w'):Own (ext S w w') n0 w' l e sz A n cap xs:=
 ⟨h.kept fun a ha=>hb.block _ (h.lt ha).2,fun a ha=>⟨fun hs=>by
  rcases hs with hs | hs
  ·exact (h.out a ha).1 hs
  ·have:=(h.lt ha).2;omega,(h.out a ha).2⟩⟩
theorem Own.quiet (h:Own S n0 w l e sz A n cap xs) (hb:Below w.heap.size w w'):Own S n0 w' l e sz A n cap xs:=
 ⟨h.kept fun a ha=>hb.block _ (h.lt ha).2,h.out⟩
theorem Own.loc (h:Own S n0 w l e sz A n cap xs) {cs:List Value} {T g:Nat} (hN:New w cs T g w'):Own S n0 w' ((g,T,cs)::l) e sz A n cap xs:=
 ⟨h.kept fun a ha=>hN.below.block _ (h.lt ha).2,fun a ha=>⟨(h.out a ha).1,fun x hx=>by
  cases hx with
  | head=>have:=(h.lt ha).2;have:=hN.1;show g≠a.block;omega
  | tail _ hx=>exact (h.out a ha).2 x hx⟩⟩
theorem Own.set (h:Own S n0 w l e sz A n cap xs) (hc:Ctx S0 w0 S w l) (k:Nat) {g T:Nat} {cs:List Value} (hk:l[k]?=some (g,T,cs)) {o:Nat} {ys:List Value} (hS:E2 w ⟨g,o,none⟩ ys w'):
  Own S n0 w' (J6 l k (D3 cs o ys)) e sz A n cap xs:=by
 obtain⟨h1,h2,h3,h4,h5,h6⟩:=V7 o ys w 0 cs (hc.blk k hk)
 rw [<-(show w'=_ from hS)] at h1 h2 h3
 refine⟨h.kept fun a ha=>h2 _ fun e1=>(h.out a ha).2 _ (List.mem_of_getElem? hk) e1.symm,fun a ha=>⟨(h.out a ha).1,fun x hx=>?_⟩⟩
 obtain⟨y,hy,e2⟩:=O5 hx
 rw [<-e2];exact (h.out a ha).2 y hy
theorem Own.told (h:Own S w0.heap.size w l e sz A n cap xs) (hc:Ctx S0 w0 S w l):
  Ctx S0 w0 (fun b=>S b\/∃ a,A=some a/\a.block=b) w l/\Fut S w (fun b=>S b\/∃ a,A=some a/\a.block=b) w/\(n<=cap->cap<=maxLen->Row (fun b=>S b\/∃ a,A=some a/\a.block=b) w A n cap xs):=by
 refine⟨⟨hc.below,fun b hb=>.inl (hc.sub b hb),fun b hb=>?_,fun b hb=>?_,hc.locs.mono (fun _ _=>rfl) (fun x hx hs=>?_)⟩,⟨fun b hb=>.inl hb,fun _ _=>rfl⟩,fun h1 h2=>⟨h1,h2,fun hx=>?_⟩⟩
 ·rcases hb with hb | ⟨a,ha,rfl⟩
  ·exact hc.new b hb
  ·exact .inr (h.lt ha).1
 ·rcases hb with hb | ⟨a,ha,rfl⟩
  ·exact hc.lt b hb
  ·exact (h.lt ha).2
 ·rcases hs with hs | ⟨a,ha,e1⟩
  ·exact hs
  ·exact absurd e1.symm ((h.out a ha).2 x hx)
 ·obtain⟨e0,h3⟩:=h.row
  rcases h3 with ⟨h3,rfl⟩ | ⟨g,cp,cur,e1,_,_,_,_,_,_⟩
  ·rw [Nat.zero_mul] at e0
   exact absurd (List.eq_nil_of_length_eq_zero e0) hx
  ·cases e1
   exact⟨_,rfl,.inr ⟨_,rfl,rfl⟩,h.row.cells rfl⟩
theorem Own.fit (h:Own S n0 w l e sz A n cap xs):n<=cap/\cap<=maxLen:=by
 obtain⟨e0,h3⟩:=h.row
 rcases h3 with ⟨h3,rfl⟩ | ⟨g,cp,cur,e1,_,_,h4,h5,_,_⟩
 ·cases h3;exact⟨Nat.le_refl _,Nat.zero_le _⟩
 ·cases e1;exact⟨h4,h5⟩
end
theorem Ctx.drop {S0 S:Nat->Prop} {w0 w:World} {x:LB} {l:List LB} (h:Ctx S0 w0 S w (x::l)):Ctx S0 w0 S w l:=
 ⟨h.below,h.sub,h.new,h.lt,by obtain⟨g,T,cs⟩:=x;exact h.locs.2.2.2.2⟩
theorem Own.drop {S:Nat->Prop} {w:World} {x:LB} {l:List LB} {e sz:Nat} {A:Option Addr} {n cap:Nat} {xs:List Value} {n0:Nat} (h:Own S n0 w (x::l) e sz A n cap xs):Own S n0 w l e sz A n cap xs:=
 ⟨h.row,fun a ha=>⟨(h.out a ha).1,fun y hy=>(h.out a ha).2 y (List.mem_cons_of_mem _ hy)⟩⟩
theorem New.row {w w':World} {cs:List Value} {T g:Nat} (h:New w cs T g w') (n:Nat) (hn:n<=1000):Row (fun b=>b=g) w' (some ⟨g,0,none⟩) n n cs:=
 ⟨Nat.le_refl _,Nat.le_trans hn (by decide),fun _=>⟨_,rfl,rfl,fun j u hu=>by
  have e1:(⟨g,0,none⟩:Addr).add j=⟨g,j,none⟩:=by rw [Addr.add_lit,Nat.zero_add]
  rw [e1,h.blk.cell j];exact hu⟩⟩
structure Keeps (bs:Nat->Prop) (w x:World):Prop where
 block:∀ b,bs b->x.heap[b]?=w.heap[b]?
 size:w.heap.size<=x.heap.size
theorem Keeps.start (bs:Nat->Prop) (w:World):Keeps bs w w.drew:=⟨fun _ _=>rfl,Nat.le_refl _⟩
theorem Keeps.below {bs:Nat->Prop} {w x x':World} (h:Keeps bs w x) (hlt:∀ b,bs b->b<w.heap.size) (hb:Below x.heap.size x x'):Keeps bs w x':=
 ⟨fun b hs=>(hb.block b (Nat.lt_of_lt_of_le (hlt b hs) h.size)).trans (h.block b hs),Nat.le_trans h.size hb.size⟩
theorem Keeps.stored {bs:Nat->Prop} {w x x':World} (h:Keeps bs w x) {g T o:Nat} {cs xs:List Value} (hB:Blk x g T cs) (hg:¬ bs g) (hS:E2 x ⟨g,o,none⟩ xs x'):Keeps bs w x':=by
 obtain⟨_,h2,h3,_⟩:=V7 o xs x 0 cs hB
 rw [<-(show x'=_ from hS)] at h2 h3
 exact⟨fun b hs=>(h2 b fun e=>hg (e▸hs)).trans (h.block b hs),by rw [h3];exact h.size⟩
theorem Keeps.cell {bs:Nat->Prop} {w x:World} (h:Keeps bs w x) {g T:Nat} {cs:List Value} (hB:Blk w g T cs) (hg:bs g) {i:Nat} {v:Value} (hv:cs[i]?=some v):x.cell? ⟨g,i,none⟩=some v:=
 ((hB.of_eq (h.block g hg)).cell i).trans hv
theorem Keeps.cells {bs:Nat->Prop} {w x:World} (h:Keeps bs w x) {g T:Nat} {cs:List Value} (hB:Blk w g T cs) (hg:bs g):Go.Vc.cellsAt x ⟨g,0,none⟩ cs 0:=
 C3 (hB.of_eq (h.block g hg)) 0 cs 0 (fun j v hj=>by simpa using hj)
theorem Keeps.at {bs:Nat->Prop} {w x:World} (h:Keeps bs w x) {a:Addr} {v:Value} (hc:w.cell? a=some v) (hg:bs a.block):x.cell? a=some v:=
 (World.cell?_of_block (h.block _ hg)).trans hc
theorem Ctx.drew {S0 S:Nat->Prop} {w0 w:World} {l:List LB} (h:Ctx S0 w0 S w l):Ctx S0 w0 S w.drew l:=⟨h.below.drew,h.sub,h.new,h.lt,h.locs.mono (fun _ _=>rfl) (fun _ _ h=>h)⟩
theorem A3C (A:Option Addr) (n cap k:Nat):(Value.slice A n cap).ownBlock=some k->∃ a,A=some a/\a.block=k:=by
 intro h
 cases A with
 | none=>cases h
 | some a=>exact⟨a,rfl,Option.some.inj h⟩
section
variable {P:Program} {S0 S:Nat->Prop} {w0 w:World} {l:List LB} {e sz bytes:Nat} {A B:Option Addr} {n cap m c:Nat} {xs ys:List Value} {K:Value->World->Prop} {z:Value}
theorem X6 {t T:Nat} {cs:Array Bool} (ht:P.underlying t=some (.slice e)) (hi:(P.info? e).map (fun i=>(i.zero,i.size,i.bytes))=some (some z,sz,bytes)) (hzs:z.cells.size=sz) (hsz:0<sz)
  (hc:Ctx S0 w0 S w l) (ho:Own S w0.heap.size w l e sz A n cap xs) {ad:Addr} (hl:ys.length=m*sz) (hy:Go.Vc.cellsAt w ad ys 0) (h1:G9 ys=true) (h63:n+m<=34359738368) (hby:bytes<=4096)
  (k:∀ A' cap' w',Ctx S0 w0 S w' l->Fut S w S w'->Own S w0.heap.size w' l e sz A' (n+m) cap' (xs++ys)->w.grownBy w' (Value.slice A n cap).ownBlock->K (.slice A' (n+m) cap') w'):
  ∃ v w',(builtin .append #[t,t] T cs #[.slice A n cap,.slice (some ad) m c]).run P w=.ok (.value v) w'/\K v w':=by
 obtain⟨i,h2,h3,h4,h5⟩:=info_parts hi
 have hbase:w0.heap.size<=w.heap.size:=hc.below.size
 have hbytes:(n+m)*bytes<=140737488355328:=Nat.le_trans (Nat.mul_le_mul h63 hby) (by decide)
 have cellsOf:∀ (ys:List Value) (i:Nat),Go.Vc.cellsAt w ad ys i->∀ j u,ys[j]?=some u->w.cell? (ad.add (i+j))=some u:=by
  intro ys
  induction ys with
  | nil=>intro i _ j u h;cases h
  | cons v r ih=>
   intro i h j u hu
   cases j with
   | zero=>cases hu;exact h.1
   | succ j=>rw [show i+(j+1)=i+1+j from by omega];exact ih (i+1) h.2 j u hu
 obtain⟨v',w',hrun,hown,hg,_⟩:=run_append_own (P:=P) w w0.heap.size t T e i z sz bytes ht h2 h3 h4 h5 hzs hsz _ n xs ho.row ad m c ys hl (fun j u hu=>by have:=cellsOf ys 0 hy j u hu;rwa [Nat.zero_add] at this)
  (M6 h1) (by simp only [maxLen];omega) hbytes hbase
 have hrow:∀ k,(Value.slice A n cap).ownBlock=some k->w0.heap.size<=k/\¬ S k/\∀ x∈l,x.1≠k:=by
  intro k hk
  obtain⟨a,ha,rfl⟩:=A3C _ _ _ _ hk
  exact⟨(ho.lt ha).1,ho.out a ha⟩
 have hne:∀ b,b<w.heap.size->(∀ k,(Value.slice A n cap).ownBlock=some k->b≠k)->w'.heap[b]?=w.heap[b]?:=fun b hb hk=>hg.block b hb fun h=>hk b h.symm rfl
 have shape:∃ A' cap',v'=.slice A' (n+m) cap':=by
  obtain⟨_,h6⟩:=hown
  rcases h6 with ⟨h6,h7⟩ | ⟨g,cp,cur,h6,_⟩
  ·exact⟨none,0,by rw [h7];exact h6⟩
  ·exact⟨_,_,h6⟩
 obtain⟨A',cap',rfl⟩:=shape
 refine⟨_,w',?_,k A' cap' w' ?_ ?_ ?_ hg⟩
 ·show (do pure (Next.value (<-Builtin.append_ #[t,t] T #[.slice A n cap,.slice (some ad) m c])):Sem Next).run P w=_
  simp only [Sem.run_bind,hrun,Result.andThen_ok,Sem.run_pure]
 ·exact⟨hc.below.grown hg hbase (fun k hk=>(hrow k hk).1),hc.sub,hc.new,fun b hb=>Nat.lt_of_lt_of_le (hc.lt b hb) hg.size,
   hc.locs.mono (fun x hx=>hne _ (hc.locs.lt x hx) fun k hk=>(hrow k hk).2.2 x hx) (fun _ _ h=>h)⟩
 ·exact⟨fun _ h=>h,fun b hb=>hne b (hc.lt b hb) fun k hk e1=>(hrow k hk).2.1 (e1▸hb)⟩
 ·refine⟨hown,fun a ha=>?_⟩
  subst ha
  -- where the new row lies: where the old one lay, or it is new
  have new_:a.block=w.heap.size->¬ S a.block/\∀ x∈l,x.1≠a.block:=fun hw=>
   ⟨fun hs=>by have:=hc.lt _ hs;omega,fun x hx e1=>by have:=hc.locs.lt x hx;omega⟩
  have hy':∀ j u,ys[j]?=some u->w.cell? (ad.add j)=some u:=fun j u hu=>by have:=cellsOf ys 0 hy j u hu;rwa [Nat.zero_add] at this
  subst h4
  subst h5
  have hsmall:n+m<=9223372036854775807:=by omega
  rcases ho.row.2 with ⟨h6,h7⟩ | ⟨g,cp,cur,h6,h7,h8,h9,h10,h11,h12⟩
  ·cases h6
   rw [Nat.zero_add] at*
   by_cases hm:m=0
   ·subst hm
    have hr:(Builtin.append_ #[t,t] T #[.slice none 0 0,.slice (some ad) 0 c]).run P w=.ok (.slice none 0 0) w:=by
     have hys:ys=[]:=List.eq_nil_of_length_eq_zero (by simpa using hl)
     have hf:=run_firstCells_some (P:=P) w i.size 0 ad 0 c ys hl hy'
     simp [Builtin.append_,run_underlying ht,sizeOf,typeInfo,h2,Builtin.lenOf,hf]
    rw [hr] at hrun
    cases hrun
   ·have hr:=run_append_nil (P:=P) w t T e i z ht h2 h3 ad m c ys hl hy' (by omega) (by omega) (by omega)
    rw [hr] at hrun
    cases hrun
    exact new_ rfl
  ·cases h6
   by_cases hroom:n+m<=cap
   ·have hr:=run_append_room (P:=P) w t T e i ht h2 g n cap cur h8 ad m c ys hl hy' (M6 h1) hroom (by rw [hl,h11,<-Nat.add_mul];exact Nat.mul_le_mul_right _ hroom)
    rw [hr] at hrun
    cases hrun
    exact ho.out _ rfl
   ·have hr:=run_append_grow (P:=P) w t T e i z ht h2 h3 ⟨g,0,none⟩ n cap xs ho.row.1 (ho.row.cells rfl) ad m c ys hl hy' (by omega) (by omega) (growslice_fits (by omega) hbytes)
    rw [hr] at hrun
    cases hrun
    exact new_ rfl
end
end Go.Vc
end
