import Derived.WalkKit
import Derived.Below
import Derived.Deep.Draws
import Derived.Laws.Cells
import Derived.Deep.LoopGhost
noncomputable section
namespace Go
theorem t6:True:=trivial
theorem z6:∀ {c:Type _} {a b:List c},(a++b).length=a.length+b.length:=@List.length_append
theorem z7:∀ (a b:Bool),((a&&b)=true)=(a=true∧b=true):=Bool.and_eq_true
theorem z8:∀ {n m:Nat},Nat.beq n m=true→n=m:=@Nat.eq_of_beq_eq_true
theorem zb:∀ n:Nat,0≤n:=Nat.zero_le
theorem zc:∀ n:Nat,n≤n:=Nat.le_refl
theorem ze:∀ {n m:Nat},Nat.ble n m=true→n≤m:=@Nat.le_of_ble_eq_true
theorem zg:∀ {a:Type _} {i:Nat} {l:List a},(List.take i l).length=Min.min i l.length:=@List.length_take
theorem zh:∀ {a:Type _} {i:Nat} {l:List a},(List.drop i l).length=l.length-i:=@List.length_drop
theorem zi:∀ n:Nat,(n:Int).toNat=n:=Int.toNat_natCast
theorem zj:∀ {b:Type _} {a:b} {s:List b},(a::s).length=s.length+1:=@List.length_cons
theorem zl:∀ {a:Type _} {b:Type _} {s:List a} (f:a→b),(List.map f s).length=s.length:=@List.length_map
theorem zm:∀ a b:Nat,a<b∨a≥b:=Nat.lt_or_ge
theorem zn:∀ n:Nat,0+n=n:=Nat.zero_add
theorem zo:∀ {a:Type _} {l:List a},l.length=0→l=[]:=@List.eq_nil_of_length_eq_zero
theorem zq:∀ {n m k:Nat},n≤m→m≤k→n≤k:=@Nat.le_trans
theorem zr:∀ {a:Type _} {i:Nat} {l:List a},l.length≤i→List.drop i l=[]:=@List.drop_of_length_le
theorem zt:∀ {c:Type _} {a b:List (List c)},(a++b).flatten=a.flatten++b.flatten:=@List.flatten_append
theorem zu:∀ {b:Type _} (y:b) {a:b} {l:List b},a∈l→a∈y::l:=@List.mem_cons_of_mem
theorem zv:∀ {b:Type _} {a:b} {l:List b},a∈a::l:=@List.mem_cons_self
theorem zw:∀ {d:Type _} (a b c:List d),a++b++c=a++(b++c):=@List.append_assoc
theorem zx:∀ {b:Type _} (a:List b),a++[]=a:=@List.append_nil
theorem zy:∀ {c:Type _} {a b:c},a∈[b]↔a=b:=@List.mem_singleton
theorem zz:∀ {p:Prop} [Decidable p],p→decide p=true:=@decide_eq_true
theorem y8:∀ {p:Prop} [Decidable p],¬p→decide p=false:=@decide_eq_false
theorem y9:∀ {p:Prop} [Decidable p],(decide p=true)=p:=@decide_eq_true_eq
theorem ya:∀ {c:Type _} [BEq c] [LawfulBEq c] {a b:c},(a==b)=false↔a≠b:=@beq_eq_false_iff_ne
theorem yb:∀ {c:Sort _} {d:Sort _} {a b:c} (f:c→d),a=b→f a=f b:=@congrArg
theorem yc:∀ {a:Type _} {l:List a} {i:Nat} (h:i<l.length),l[i]?=some l[i]:=@List.getElem?_eq_getElem
theorem ye:∀ {b c:Type} (a:b) (w:World) (f:b→World→Result c),(Result.ok a w).andThen f=f a w:=@Result.andThen_ok
theorem yf:∀ {b c:Type} (P:Program) (w:World) (x:Sem b) (f:b→Sem c),Sem.run P (x>>=f) w=(Sem.run P x w).andThen fun a w=>Sem.run P (f a) w:=@Sem.run_bind
theorem yg:∀ {b:Type} (P:Program) (w:World) (a:b),Sem.run P (pure a) w=Result.ok a w:=@Sem.run_pure
theorem yh:∀ n:Int,-9223372036854775808≤n∧n≤9223372036854775807→IntKind.i64.wrap n=n:=IntWalk.i64_in
theorem yi:∀ b o n:Nat,(⟨b,o,none⟩:Addr).add n=⟨b,o+n,none⟩:=Addr.add_lit
theorem yj:∀ b:Bool,b=true∨b=false:=Bool.eq_false_or_eq_true
theorem yl:∀ {a:Type _} {i:Nat} {l:List a} (h:i<l.length),l.drop i=l[i]::l.drop (i+1):=@List.drop_eq_getElem_cons
theorem ym:∀ {a:Type _} {i:Nat} {l:List a},l.length≤i→l.take i=l:=@List.take_of_length_le
theorem yn:∀ {c:Prop} {_:Decidable c},c→∀ {a:Sort _} {t e:a},(if c then t else e)=t:=@if_pos
theorem yo:∀ {c:Prop} {_:Decidable c},¬c→∀ {a:Sort _} {t e:a},(if c then t else e)=e:=@if_neg
end Go
set_option maxRecDepth 100000
set_option maxHeartbeats 40000000
set_option linter.unusedVariables false
set_option linter.unusedSimpArgs false
theorem Go.Vc.nle {a b:Nat} (h:Nat.ble a b=true):a<=b:=ze h
namespace Go.Vc
open Go
abbrev Fr:=Nat->Value
def upd (f:Fr) (t:Nat) (v:Value):Fr:=fun s=>bif Nat.beq s t then v else f s
def B9J (f:Fr) (d:Option Nat) (v:Value):Fr:=match d with | some t=>upd f t v | none=>f
def ev (f:Fr):Operand->Value
 | .tmp t=>f t
 | .const v=>v
 | .global g=>.pointer (some ⟨g,0,none⟩)
 | .func n=>.func (.func n) #[] #[]
def V5 (v:Value) (K:Value->Prop):Prop:=
 match v with
 | .bool b=>K (.bool b)
 | .int k n=>K (.int k n)
 | .float k n=>K (.float k n)
 | .complex k n m=>K (.complex k n m)
 | .string s=>K (.string s)
 | .pointer a=>K (.pointer a)
 | .slice a n c=>K (.slice a n c)
 | .map r=>K (.map r)
 | .chan r=>K (.chan r)
 | .func f a c=>K (.func f a c)
 | .nilFunc=>K .nilFunc
 | .iface t x=>K (.iface t x)
 | .nilIface=>K .nilIface
 | .agg cs=>K (.agg cs)
 | .tuple cs=>K (.tuple cs)
inductive TD where
 | none
 | int (k:IntKind)
 | str
 | bool
 | slice (e esz:Nat)
 | array (n e esz:Nat) (z:List Value)
 | struct (fs:List (Nat × Nat × Bool)) (z:List Value)
 | one (z:Value)
def TD.isAgg:TD->Bool
 | .array ..=>true
 | .struct ..=>true
 | _=>false
def TD.size:TD->Nat
 | .none=>0
 | .array _ _ _ z=>z.length
 | .struct _ z=>z.length
 | _=>1
def TD.zero:TD->List Value
 | .none=>[]
 | .int k=>[.int k 0]
 | .str=>[.string ByteArray.empty]
 | .bool=>[.bool false]
 | .slice ..=>[Value.slice Option.none 0 0]
 | .array _ _ _ z=>z
 | .struct _ z=>z
 | .one z=>[z]
def B1P:List (Nat × TD)->Nat->TD
 | [],_=>.none
 | (s,d)::r,t=>bif Nat.beq t s then d else B1P r t
def B1Q:List Nat->Nat->Bool
 | [],_=>false
 | s::r,t=>bif Nat.beq t s then true else B1Q r t
structure Lay where
 ty:Nat->TD
 fns:Nat->Bool
def cellsAt (w:World) (a:Addr):List Value->Nat->Prop
 | [],_=>True
 | v::r,i=>w.cell? (a.add i)=some v/\cellsAt w a r (i+1)
def Runs (P:Program) (s:Sem Value) (w:World) (k:Value->World->Prop):Prop:=∃ v w',s.run P w=.ok v w'/\k v w'
def Pure (P:Program) (s:Sem Value) (k:Value->Prop):Prop:=∃ v,(∀ w,s.run P w=.ok v w)/\k v
def K7:IntKind->IntKind->Bool
 | .i8,.i8=>true | .i16,.i16=>true | .i32,.i32=>true | .i64,.i64=>true
 | .u8,.u8=>true | .u16,.u16=>true | .u32,.u32=>true | .u64,.u64=>true
 | _,_=>false
def D7 (a b:ByteArray):Bool:=a.data.toList==b.data.toList
def E4 (a b:ByteArray):Bool:=Op.bytesLess a.data.toList b.data.toList
def B9K (P:Program) (op:BinOp) (T:Nat) (k:IntKind) (a b:Int) (K:Value->Prop):Prop:=
 match op with
 | .add=>K (.int k (k.wrap (a+b)))
 | .sub=>K (.int k (k.wrap (a-b)))
 | .mul=>K (.int k (k.wrap (a*b)))
 | .eql=>K (.bool (a==b))
 | .neq=>K (.bool (a != b))
 | .lss=>K (.bool (decide (a<b)))
 | .leq=>K (.bool (decide (a<=b)))
 | .gtr=>K (.bool (decide (b<a)))
 | .geq=>K (.bool (decide (b<=a)))
 | .quo=>b≠0/\K (.int k (k.wrap (a.tdiv b)))
 | .rem=>b≠0/\K (.int k (a.tmod b))
 | .and=>K (.int k (bits .and k a b))
 | .or=>K (.int k (bits .or k a b))
 | .xor=>K (.int k (bits .xor k a b))
 | _=>Pure P (binOp op T (.int k a) (.int k b)) K
def vStr (P:Program) (op:BinOp) (T:Nat) (a b:ByteArray) (K:Value->Prop):Prop:=
 match op with
 | .add=>a.size+b.size<=9223372036854775807/\K (.string (a++b))
 | .eql=>K (.bool (D7 a b))
 | .neq=>K (.bool (!D7 a b))
 | .lss=>K (.bool (E4 a b))
 | .leq=>K (.bool (E4 a b||D7 a b))
 | .gtr=>K (.bool (!(E4 a b||D7 a b)))
 | .geq=>K (.bool (!E4 a b))
 | _=>Pure P (binOp op T (.string a) (.string b)) K
def A0w:BinOp->Bool
 | .shl=>true
 | .shr=>true
 | _=>false
def A6D (P:Program) (op:BinOp) (T:Nat) (k yk:IntKind) (a b:Int) (K:Value->Prop):Prop:=
 match op with
 | .shl=>(0<=b/\b<=k.bits)/\K (.int k (k.wrap (a*2 ^ b.toNat)))
 | .shr=>(0<=b/\b<=k.bits)/\K (.int k (a / 2 ^ b.toNat))
 | _=>Pure P (binOp op T (.int k a) (.int yk b)) K
def TD.isBool:TD->Bool
 | .bool=>true
 | _=>false
def C0i (P:Program) (isB:Bool) (op:BinOp) (T:Nat) (ox oy:Operand) (x y:Value) (K:Value->Prop):Prop:=
 match x,y with
 | .int k a,.int k' b=>
  bif A0w op then A6D P op T k k' a b K
  else bif K7 k k' then B9K P op T k a b K else False
 | .string a,.string b=>vStr P op T a b K
 | .bool a,.bool b=>cond isB
  (match op with
  | .eql=>K (.bool (a==b))
  | .neq=>K (.bool (!(a==b)))
  | _=>False) False
 | x,y=>Pure P (do eqGuard op T ox oy x y;binOp op T x y) K
def vUn (P:Program) (op:UnOp) (x:Value) (K:Value->Prop):Prop:=
 match op,x with
 | .not,.bool b=>K (.bool (!b))
 | .neg,.int k n=>K (.int k (k.wrap (0-n)))
 | op,x=>Pure P (Op.unary op x) K
def A4N (v:Value) (K:List Value->Prop):Prop:=
 match v with
 | .agg cs=>K cs.toList
 | .bool b=>K [.bool b]
 | .int k n=>K [.int k n]
 | .float k n=>K [.float k n]
 | .complex k n m=>K [.complex k n m]
 | .string s=>K [.string s]
 | .pointer a=>K [.pointer a]
 | .slice a n c=>K [.slice a n c]
 | .map r=>K [.map r]
 | .chan r=>K [.chan r]
 | .func f a c=>K [.func f a c]
 | .nilFunc=>K [.nilFunc]
 | .iface t x=>K [.iface t x]
 | .nilIface=>K [.nilIface]
 | .tuple cs=>K [.tuple cs]
def C5:List Value->Nat->List Value->List Value
 | cs,_,[]=>cs
 | cs,i,v::r=>C5 (cs.set i v) (i+1) r
def A6E (fs:List (Nat × Nat × Bool)):List Value->List (Nat × Value)->Option (List Value)
 | cs,[]=>some cs
 | cs,(i,v)::r=>match fs[i]? with
  | some (off,size,_)=>bif Nat.beq v.cells.size size&&Nat.ble (off+size) cs.length then A6E fs (C5 cs off v.cells.toList) r else none
  | none=>none
def A0l (esz:Nat):List Value->List (Nat × Value)->Option (List Value)
 | cs,[]=>some cs
 | cs,(i,v)::r=>bif Nat.beq v.cells.size esz&&Nat.ble (i*esz+esz) cs.length then A0l esz (C5 cs (i*esz) v.cells.toList) r else none
def V6 (z:List Value):Nat->List Value
 | 0=>[]
 | n+1=>z++V6 z n
def A2s {α:Type}:List α->Bool
 | []=>true
 | _::_=>false
def A6F (esz:Nat):Nat->List (Nat × Value)->Option (List Value)
 | _,[]=>some []
 | i,(j,v)::r=>bif Nat.beq j i&&Nat.beq v.cells.size esz then (match A6F esz (i+1) r with | some t=>some (v.cells.toList++t) | none=>none) else none
def A6G (esz n:Nat) (z:List Value) (l:List (Nat × Value)):Option (List Value):=
 bif Nat.beq l.length n then (match A6F esz 0 l with | some cs=>some cs | none=>A0l esz (V6 z n) l) else A0l esz (V6 z n) l
def B6x (f:Fr):List (Nat × Operand)->(List (Nat × Value)->Prop)->Prop
 | [],K=>K []
 | (i,x)::r,K=>V5 (ev f x) fun v=>B6x f r fun l=>K ((i,v)::l)
def B1N (f:Fr):List Operand->(List Value->Prop)->Prop
 | [],K=>K []
 | x::r,K=>V5 (ev f x) fun v=>B1N f r fun l=>K (v::l)
def New (w:World) (cs:List Value) (T:Nat) (g:Nat) (w':World):Prop:=g=w.heap.size/\w'=w.alloc (.cells cs.toArray T)
def stored:World->Addr->List Value->Nat->World
 | w,_,[],_=>w
 | w,a,v::r,i=>stored (w.setCell (a.add i) v) a r (i+1)
def E6 (w:World) (a:Addr) (cs:List Value) (w':World):Prop:=w'=stored w a cs 0
def E0 (w:World) (a:Addr):List Value->Nat->Prop
 | [],_=>True
 | v::r,i=>(∃ u,w.cell? (a.add i)=some u)/\w.frozen? (a.add i)=false/\v.oneCell'=true/\E0 w a r (i+1)
structure CallVc (P:Program) (n:Nat) (args:List Value) (w:World) (K:Value->World->Prop):Prop where
 calls:Calls P n args.toArray w (fun e w'=>∃ v,e=.returned v/\K v w')
structure ExtVc (P:Program) (n:Nat) (args:List Value) (w:World) (K:Value->World->Prop):Prop where
 runs:∃ v w',(callFunc n args.toArray).run P w=.ok (.value v) w'/\K v w'
def A0m (P:Program) (L:Lay) (n:Nat) (args:List Value) (w:World) (K:Value->World->Prop):Prop:=
 cond (L.fns n) (CallVc P n args w K) (ExtVc P n args w K)
def B9L (a:Addr) (n:Nat) (K:Value->Prop):Prop:=
 match a,n with
 | ⟨b,o,s⟩,0=>K (.pointer (some ⟨b,o,s⟩))
 | ⟨b,o,_⟩,n=>K (.pointer (some ⟨b,o+n,none⟩))
def H7 (f:Fr) (d:Nat):Option Operand->Option Int
 | none=>some d
 | some x=>match ev f x with | .int _ n=>some n | _=>none
def A43 (s:ByteArray) (l h:Option Int) (K:Value->Prop):Prop:=
 match l,h with
 | some l,some h=>(0<=l/\l<=h/\h<=s.size)/\K (.string (s.extract l.toNat h.toNat))
 | _,_=>False
def K8 (a:Option Addr) (cap esz:Nat) (l h m:Option Int) (K:Value->Prop):Prop:=
 match l,h,m with
 | some l,some h,some m=>(0<=l/\l<=h/\h<=m/\m<=cap)/\K (.slice (if m=l then a else a.map (·.add (l.toNat*esz))) (h-l).toNat (m-l).toNat)
 | _,_,_=>False
def P7:Builtin->Bool
 | .len=>true
 | .min=>true
 | .max=>true
 | .real=>true
 | .imag=>true
 | .complex=>true
 | .cap=>true
 | _=>false
def A2A (P:Program) (L:Lay) (b:Builtin) (ats:Array Nat) (T:Nat) (cs:Array Bool) (xs:List Value) (K:Value->Prop):Prop:=
 match b,ats.toList,xs with
 | .len,[t],[x]=>match L.ty t,x with
  | .str,.string s=>K (.int .i64 s.size)
  | .slice ..,.slice _ n _=>K (.int .i64 n)
  | .array n ..,_=>K (.int .i64 n)
  | _,x=>Pure P (Builtin.len_ ats T #[x]) K
 | .min,_,[.int k x,.int _ y]=>K (.int k (if y<x then y else x))
 | .max,_,[.int k x,.int _ y]=>K (.int k (if y > x then y else x))
 | .real,_,[.complex k re _]=>K (.float k re)
 | .imag,_,[.complex k _ im]=>K (.float k im)
 | .complex,_,[.float .f64 re,.float .f64 im]=>K (.complex .f64 re im)
 | b,_,xs=>∃ v,(∀ w,(builtin b ats T cs xs.toArray).run P w=.ok (.value v) w)/\K v
def pOp (P:Program) (L:Lay) (T:Nat) (op:Op) (f:Fr) (K:Value->Prop):Prop:=
 match op with
 | .move x=>V5 (ev f x) K
 | .assign x=>V5 (ev f x) K
 | .pick c x y=>match ev f c with
  | .bool b=>Bool.rec (motive:=fun _=>Prop) (V5 (ev f y) K) (V5 (ev f x) K) b
  | _=>False
 | .binOp op t x y _=>C0i P (L.ty t).isBool op t x y (ev f x) (ev f y) K
 | .unOp op _ x=>vUn P op (ev f x) K
 | .convert s d x=>match L.ty s,L.ty d,ev f x with
  | .int _,.int k',.int _ n=>K (.int k' (k'.wrap n))
  | .str,.str,.string s=>K (.string s)
  | _,_,x=>Pure P (convert s d x) K
 | .fieldAddr t x i=>match L.ty t,ev f x with
  | .struct fs _,.pointer (some a)=>match fs[i]? with
   | some (off,size,_)=>cond (Nat.beq size 0) False (B9L a off K)
   | none=>False
  | _,_=>False
 | .field t x i=>match L.ty t,ev f x with
  | .struct fs _,.agg cs=>match fs[i]? with
   | some (off,size,g)=>cond g (K (.agg (cs.extract off (off+size)))) (match cs[off]? with
    | some v=>V5 v K
    | none=>False)
   | none=>False
  | _,_=>False
 | .build t ps=>match L.ty t with
  | .struct fs z=>B6x f ps.toList fun l=>match A6E fs z l with
   | some cs=>K (.agg cs.toArray)
   | none=>False
  | .array _ _ esz z=>B6x f ps.toList fun l=>match A0l esz z l with
   | some cs=>K (.agg cs.toArray)
   | none=>False
  | _=>False
 | .index t x i=>match L.ty t,ev f x,ev f i with
  | .str,.string s,.int _ n=>(0<=n/\n<s.size)/\K (.int .u8 ((s.data.toList.getD n.toNat 0).toNat:Int))
  | _,x,i=>Pure P (Instr.index t x i) K
 | .indexAddr t x i=>match L.ty t,ev f x,ev f i with
  | .slice _ esz,.slice (some a) len _,.int _ n=>(0<=n/\n<len)/\K (.pointer (some (a.add (n.toNat*esz))))
  | .array len _ esz _,.pointer (some a),.int _ n=>(0<=n/\n<len)/\K (.pointer (some (a.add (n.toNat*esz))))
  | _,_,_=>False
 | .slice t x lo hi mx=>match L.ty t,ev f x with
  | .str,.string s=>match mx with
   | none=>A43 s (H7 f 0 lo) (H7 f s.size hi) K
   | some _=>False
  | .slice _ esz,.slice a len cap=>match mx with
   | none=>K8 a cap esz (H7 f 0 lo) (H7 f len hi) (some cap) K
   | some m=>match lo,hi with
    | some l,some h=>K8 a cap esz (H7 f 0 (some l)) (H7 f len (some h)) (H7 f cap (some m)) K
    | _,_=>False
  | .array n _ esz _,.pointer (some a)=>match mx with
   | none=>K8 (some a) n esz (H7 f 0 lo) (H7 f n hi) (some n) K
   | some _=>False
  | _,_=>False
 | .extract x i=>match ev f x with
  | .tuple vs=>match vs.toList[i]? with
   | some v=>V5 v K
   | none=>False
  | _=>False
 | .makeFunc fn fs cs=>B1N f fs.toList fun fs=>B1N f cs.toList fun cs=>K (.func fn fs.toArray cs.toArray)
 | .nilCheck x=>match ev f x with
  | .pointer (some a)=>K (.pointer (some a))
  | .func (.func n) fs cs=>K (.func (.func n) fs cs)
  | _=>False
 | .call c=>match c.callee with
  | .builtin b=>cond (P7 b) (B1N f c.args.toList fun xs=>A2A P L b c.argTypes T (c.args.map fun | .const _=>true | _=>false) xs K) False
  | _=>False
 | .makeInterface t x=>Pure P (Instr.makeInterface t (ev f x)) K
 | _=>False
def vOp (P:Program) (L:Lay) (T:Nat) (op:Op) (f:Fr) (w:World) (K:Value->World->Prop):Prop:=
 match op with
 | .load t x=>match L.ty t,ev f x with
  | .none,_=>False
  | .array _ _ _ z,.pointer (some a)=>∃ cs:List Value,cs.length=z.length/\cellsAt w a cs 0/\K (.agg cs.toArray) w
  | .struct _ z,.pointer (some a)=>∃ cs:List Value,cs.length=z.length/\cellsAt w a cs 0/\K (.agg cs.toArray) w
  | _,.pointer (some a)=>∃ v,w.cell? a=some v/\K v w
  | _,_=>False
 | .store t x y=>match L.ty t,ev f x with
  | .none,_=>False
  | d,.pointer (some a)=>A4N (ev f y) fun cs=>cond (Nat.beq cs.length d.size) (E0 w a cs 0/\∀ w',E6 w a cs w'->K undef w') False
  | _,_=>False
 | .alloc t=>match L.ty t with
  | .none=>False
  | d=>∀ g w',New w d.zero t g w'->K (.pointer (some ⟨g,0,none⟩)) w'
 | .box t x=>A4N (ev f x) fun cs=>∀ g w',New w cs t g w'->K (.pointer (some ⟨g,0,none⟩)) w'
 | .buildSlice t n ps=>match L.ty t with
  | .slice e esz=>cond (Nat.beq n 0&&A2s ps.toList) (∀ g w',New w [] e g w'->K (.slice (some ⟨g,0,none⟩) 0 0) w') (cond (Nat.ble (n*esz) 16777216&&!Nat.beq esz 0&&!Nat.beq n 0) (
    match L.ty e with
    | .none=>False
    | d=>cond (Nat.beq d.size esz)
     (B6x f ps.toList fun l=>match A6G esz n d.zero l with
     | some cs=>∀ g w',New w cs e g w'->K (.slice (some ⟨g,0,none⟩) n n) w'
     | none=>False) False)
   False)
  | _=>False
 | .call c=>match c.callee with
  | .builtin b=>B1N f c.args.toList fun xs=>cond (P7 b)
   (A2A P L b c.argTypes T (c.args.map fun | .const _=>true | _=>false) xs fun v=>K v w)
   (∃ v w',(builtin b c.argTypes T (c.args.map fun | .const _=>true | _=>false) xs.toArray).run P w=.ok (.value v) w'/\K v w')
  | .value fo=>match ev f fo with
   | .func (.func n) first captured=>B1N f c.args.toList fun xs=>match first.toList,captured.toList with
    | [],[]=>A0m P L n xs w K
    | fs,cs=>A0m P L n (fs++xs++cs) w K
   | _=>False
  | .invoke ..=>False
 | .convert s d x=>match L.ty s,L.ty d,ev f x with
  | .int _,.int k',.int _ n=>K (.int k' (k'.wrap n)) w
  | .str,.str,.string s=>K (.string s) w
  | _,_,x=>Runs P (convert s d x) w K
 | .makeMap t r=>Runs P (Instr.makeMap t (r.map (ev f))) w K
 | .makeSlice t l c=>Runs P (Instr.makeSlice t (ev f l) (ev f c)) w K
 | .lookup t x i ok=>Runs P (Instr.lookup t (ev f x) (ev f i) ok) w K
 | .mapUpdate t m k x=>∃ w',(Instr.mapUpdate t (ev f m) (ev f k) (ev f x)).run P w=.ok () w'/\K undef w'
 | .insert t m k x=>∃ w',(Instr.mapUpdate t (ev f m) (ev f k) (ev f x)).run P w=.ok () w'/\K undef w'
 | .range t x=>Runs P (Instr.range t (ev f x)) w K
 | .next it s=>Runs P (Instr.next (ev f it) s T) w K
 | .entry it=>Runs P (Instr.entry (ev f it)) w K
 | op=>pOp P L T op f fun v=>K v w
def J6 (ops0:List Oper) (f:Fr) (j:Nat):Option (Nat × Bool):=
 match ops0[j]? with
 | some o=>match o.dst with
  | some t=>match f t with
   | .bool b=>some (t,b)
   | _=>none
  | none=>none
 | none=>none
def T8 (f:Fr) (d:Option Nat) (v:Value) (K:Fr->Prop):Prop:=match d with | some t=>K (upd f t v) | none=>K f
def A6H (P:Program) (L:Lay) (ops0:List Oper) (l:List Oper):Fr->World->(Fr->World->Prop)->Prop:=
 List.rec (motive:=fun _=>Fr->World->(Fr->World->Prop)->Prop) (fun f w K=>K f w)
  (fun o _ ih f w K=>match o with
   | ⟨dst,op,T,_,_,none⟩=>vOp P L T op f w fun v w'=>T8 f dst v fun f'=>ih f' w' K
   | ⟨dst,op,T,_,_,some (j,want)⟩=>match J6 ops0 f j with
    | some (t,b)=>Bool.rec (motive:=fun _=>Prop)
      (cond want (T8 (upd f t (.bool false)) dst undef fun f'=>ih f' w K)
       (vOp P L T op (upd f t (.bool false)) w fun v w'=>T8 (upd f t (.bool false)) dst v fun f'=>ih f' w' K))
      (cond want (vOp P L T op (upd f t (.bool true)) w fun v w'=>T8 (upd f t (.bool true)) dst v fun f'=>ih f' w' K)
       (T8 (upd f t (.bool true)) dst undef fun f'=>ih f' w K)) b
    | none=>T8 f dst undef fun f'=>ih f' w K) l
def lk:List (Nat × Value)->Nat->Option Value
 | [],_=>none
 | (s,v)::r,t=>bif Nat.beq t s then some v else lk r t
def mk (l:List (Nat × Value)) (u:Fr):Fr:=fun t=>match lk l t with | some v=>v | none=>u t
def B4j (f:Fr):List (Nat × Value)->Prop
 | []=>True
 | (t,v)::r=>f t=v/\B4j f r
def Agree (n:Nat) (a:Act) (f:Fr):Prop:=a.defers=[]/\a.tmps.size=n/\∀ t,a.tmps.getD t undef=f t
def A0s (n:Nat):List Oper->Bool
 | []=>true
 | o::r=>(match o.dst with | some t=>Nat.blt t n | none=>true)&&A0s n r
structure Drawn (P:Program) (id:Nat) (ops:Array Oper) (f:Fr) (w:World) (K:Fr->World->Prop):Prop where
 wp:∀ (n:Nat) (a:Act),A0s n ops.toList=true->Agree n a f->(Code.region id ops true).wp P (fun e a' w'=>e=.normal/\∃ f',Agree n a' f'/\K f' w') a w
def B9S (b:Fr->World->(Exit->Fr->World->Prop)->Prop) (K:Exit->Fr->World->Prop) (e:Exit) (f:Fr) (w:World):Prop:=
 match e with
 | .normal=>b f w K
 | e=>K e f w
def A8r (id:Nat) (K:Exit->Fr->World->Prop) (e:Exit) (f:Fr) (w:World):Prop:=
 match e with
 | .exit i=>cond (Nat.beq i id) (K .normal f w) (K (.exit i) f w)
 | e=>K e f w
def B9T {α:Type} (st:α->List (Nat × Value)) (inv:α->World->Prop) (μ:α->World->Nat) (x:α) (w0:World) (K:Exit->Fr->World->Prop) (e:Exit) (f:Fr) (w:World):Prop:=
 match e with
 | .normal=>∃ x',B4j f (st x')/\inv x' w/\μ x' w<μ x w0
 | e=>K e f w
def S6 (P:Program) (L:Lay) (c:Code):Fr->World->(Exit->Fr->World->Prop)->Prop:=
 Code.rec (motive:=fun _=>Fr->World->(Exit->Fr->World->Prop)->Prop)
  (fun f w K=>K .normal f w)
  (fun id ops d f w K=>cond d (Drawn P id ops f w (K .normal)) (A6H P L ops.toList ops.toList f w (K .normal)))
  (fun _ _ iha ihb f w K=>iha f w (B9S ihb K))
  (fun c _ _ iha ihb f w K=>match ev f c with
   | .bool t=>Bool.rec (motive:=fun _=>Prop) (ihb f w K) (iha f w K) t
   | _=>False)
  (fun id _ ih f w K=>ih f w (A8r id K))
  (fun _ ih f w K=>∃ (α:Type) (st:α->List (Nat × Value)) (inv:α->World->Prop) (μ:α->World->Nat) (x0:α),
   B4j f (st x0)/\inv x0 w/\∀ (x:α) (w':World) (u:Fr),inv x w'->ih (mk (st x) u) w' (B9T st inv μ x w' K))
  (fun _ _ _ _ _ _ _ _ _=>False)
  (fun id f w K=>K (.exit id) f w)
  (fun _ _ _ _ _=>False)
  (fun _ f w K=>K .normal f w)
  (fun _ _ _ _=>False)
  (fun f w K=>K .ret f w)
  (fun _ _ _ _=>False) c
def A6B (L:Lay) (f:Fr) (w:World):List ResultVar->List Value->(List Value->Prop)->Prop
 | [],vs,K=>K vs.reverse
 | .tmp t::r,vs,K=>V5 (f t) fun v=>A6B L f w r (v::vs) K
 | .cell a t::r,vs,K=>match L.ty t,f a with
  | .none,_=>False
  | .array _ _ _ z,.pointer (some p)=>∃ cs:List Value,cs.length=z.length/\cellsAt w p cs 0/\A6B L f w r (.agg cs.toArray::vs) K
  | .struct _ z,.pointer (some p)=>∃ cs:List Value,cs.length=z.length/\cellsAt w p cs 0/\A6B L f w r (.agg cs.toArray::vs) K
  | _,.pointer (some p)=>∃ v,w.cell? p=some v/\A6B L f w r (v::vs) K
  | _,_=>False
def A6I:List Value->Value
 | [v]=>v
 | vs=>.tuple vs.toArray
def fnK (L:Lay) (rs:Array ResultVar) (R:Ending->World->Prop) (e:Exit) (f:Fr) (w:World):Prop:=
 match e with
 | .normal=>A6B L f w rs.toList [] fun vs=>R (.returned (A6I vs)) w
 | .ret=>A6B L f w rs.toList [] fun vs=>R (.returned (A6I vs)) w
 | _=>False
def A7j (args:List Value):Fr:=fun t=>args.getD t undef
def P1 (n:Nat):Code->Bool
 | .region _ ops _=>A0s n ops.toList
 | .seq a b=>P1 n a&&P1 n b
 | .cond _ a b=>P1 n a&&P1 n b
 | .block _ b=>P1 n b
 | .loop b=>P1 n b
 | _=>true
end Go.Vc
section
namespace Go.Vc
open Go
def szV (P:Program) (t n:Nat) (v:Value):Prop:=(P.info? t).map (fun i=>(i.size,i.zero))=some (n,some v)
def szN (P:Program) (t n:Nat):Prop:=(P.info? t).map (fun i=>i.size)=some n
def A0E:TypeDesc->Bool
 | .struct _=>true
 | .array ..=>true
 | _=>false
def C0j (P:Program) (F:Array Field) (fs:List (Nat × Nat × Bool)):Prop:=
 F.toList.map (fun fl=>(fl.offset,(P.info? fl.type).map (fun i=>i.size),(P.underlying fl.type).map A0E))=fs.map fun x=>(x.1,some x.2.1,some x.2.2)
theorem G1 {P:Program} {t n:Nat} {v:Value} (h:(P.info? t).map (fun i=>(i.size,i.zero))=some (n,some v)):szV P t n v:=h
theorem A35 {P:Program} {t n:Nat} (h:(P.info? t).map (fun i=>i.size)=some n):szN P t n:=h
theorem fs_ {P:Program} {F:Array Field} {fs:List (Nat × Nat × Bool)}
  (h:F.toList.map (fun f=>(f.offset,(P.info? f.type).map (fun i=>i.size),(P.underlying f.type).map A0E))=fs.map fun x=>(x.1,some x.2.1,some x.2.2)):C0j P F fs:=h
def B7W (P:Program) (t:Nat):TD->Prop
 | .none=>True
 | .int k=>P.underlying t=some (.int k)/\szV P t 1 (.int k 0)
 | .str=>P.underlying t=some .string/\szV P t 1 (.string ByteArray.empty)
 | .bool=>P.underlying t=some .bool/\szV P t 1 (.bool false)
 | .slice e esz=>P.underlying t=some (.slice e)/\szV P t 1 (.slice none 0 0)/\szN P e esz
 | .array n e esz z=>P.underlying t=some (.array n e)/\szV P t z.length (.agg z.toArray)/\szN P e esz
 | .struct fs z=>(∃ F,P.underlying t=some (.struct F)/\C0j P F fs)/\szV P t z.length (.agg z.toArray)
 | .one z=>(∃ d,P.underlying t=some d/\A0E d=false)/\szV P t 1 z/\z.cells=#[z]
def B7X (P:Program):List (Nat × TD)->Prop
 | []=>True
 | (t,d)::r=>B7W P t d/\B7X P r
def C1m (P:Program) (n:Nat):Prop:=∀ (args:Array Value) (w:World),(callFunc n args).run P w=.ok (.enter n args) w
def B7Y (P:Program):List Nat->Prop
 | []=>True
 | n::r=>C1m P n/\B7Y P r
structure Lay.Ok (P:Program) (L:Lay):Prop where
 ty:∀ t,B7W P t (L.ty t)
 fns:∀ n,L.fns n=true->C1m P n
theorem lay_ok {P:Program} {t:List (Nat × TD)} {f:List Nat} (h:B7X P t) (g:B7Y P f):Lay.Ok P ⟨B1P t,B1Q f⟩:=by
 constructor
 ·intro a;show B7W P a (B1P t a);induction t with
  | nil=>trivial
  | cons x r i=>
   obtain⟨s,d⟩:=x;simp only [B1P];cases b:Nat.beq a s
   ·exact i h.2
   ·have:=z8 b;subst this;exact h.1
 ·intro n;show B1Q f n=true->_;induction f with
  | nil=>intro h;cases h
  | cons x r i=>
   simp only [B1Q];cases b:Nat.beq n x
   ·exact i g.2
   ·have:=z8 b;subst this;exact fun _=>g.1
section
variable {P:Program} {L:Lay}
theorem A2t {t n:Nat} {v:Value} (h:szV P t n v):szN P t n:=by
 unfold szV at h;unfold szN;cases i:P.info? t with
 | none=>rw [i] at h;cases h
 | some a=>rw [i] at h;simp at h;simp [h.1]
theorem I8 {t n:Nat} (h:szN P t n) (w:World):(sizeOf t).run P w=.ok n w:=by
 unfold szN at h;cases i:P.info? t with
 | none=>rw [i] at h;cases h
 | some a=>rw [i] at h;simp at h;simp [sizeOf,typeInfo,i,h]
theorem G7 {t n:Nat} {v:Value} (h:szV P t n v) (w:World):(zeroValue t).run P w=.ok v w:=by
 unfold szV at h;cases i:P.info? t with
 | none=>rw [i] at h;cases h
 | some a=>rw [i] at h;simp at h;simp [zeroValue,typeInfo,i,h.2]
theorem A44 {t:Nat} {d:TypeDesc} (h:P.underlying t=some d) (w:World):(isAgg t).run P w=.ok (A0E d) w:=by simp only [isAgg,yf,run_underlying h,ye];cases d<;>rfl
def Goes (P:Program) (K:Value->World->Prop):Result Next->Prop
 | .ok (.value v) w=>K v w
 | .ok .skip w=>K undef w
 | .ok (.enter f args) w=>Calls P f args w (fun e w'=>∃ v,e=.returned v/\K v w')
 | _=>False
theorem Goes.upon {K:Value->World->Prop} {r:Result Next} (h:Goes P K r) (o:Oper) (b:Act) (next:Act->World->Prop) (Q:Exit->Act->World->Prop)
  (a:∀ v w,K v w->next (b.put o.dst v) w):o.upon P b next Q r:=by
 cases r with
 | halt x w=>exact h.elim
 | ok n w=>
  cases n<;>first
   | exact a _ _ h
   | exact h.elim
   | exact Calls.mono h (fun c w' ⟨v,e,k⟩=>by subst e;exact a _ _ k)
theorem K2 (v:Value) (K:Value->Prop):V5 v K=K v:=by cases v<;>rfl
theorem A0F (f:Fr):∀ (l:List Operand) (K:List Value->Prop),B1N f l K=K (l.map (ev f))
 | [],_=>rfl
 | x::r,K=>by simp only [B1N,K2,A0F f r,List.map_cons]
theorem A1h (f:Fr):∀ (l:List (Nat × Operand)) (K:List (Nat × Value)->Prop),B6x f l K=K (l.map fun p=>(p.1,ev f p.2))
 | [],_=>rfl
 | (i,x)::r,K=>by simp only [B6x,K2,A1h f r,List.map_cons]
theorem intSame_eq {k k':IntKind} (h:K7 k k'=true):k=k':=by cases k<;>cases k'<;>first | rfl | cases h
theorem A2u (v:Value) (K:List Value->Prop):A4N v K=K v.cells.toList:=by cases v<;>rfl
theorem B1R (a:Addr) (n:Nat) (K:Value->Prop):B9L a n K=K (.pointer (some (a.add n))):=by
 obtain⟨b,o,s⟩:=a;cases n with
 | zero=>simp [B9L,Addr.add]
 | succ n=>simp [B9L,Addr.add]
theorem V7 (s:ByteArray):s.toList=s.data.toList:=ByteArray.toList_eq s
theorem A98 (o:BinOp) (T:Nat) (k:IntKind) (a b:Int) (K:Value->Prop) (h:B9K P o T k a b K):∃ v,(∀ w,(binOp o T (.int k a) (.int k b)).run P w=.ok v w)/\K v:=by
 cases o
 case quo=>exact⟨_,fun w=>by simp only [binOp_quo,Op.intDiv,yo h.1];rfl,h.2⟩
 case rem=>exact⟨_,fun w=>by simp only [binOp_rem,Op.intDiv,yo h.1];rfl,h.2⟩
 case shl=>exact h
 case shr=>exact h
 case andNot=>exact h
 case add=>exact⟨_,fun w=>by rw [binOp_add];rfl,h⟩
 case sub=>exact⟨_,fun w=>by rw [binOp_sub];rfl,h⟩
 case mul=>exact⟨_,fun w=>by rw [binOp_mul];rfl,h⟩
 case eql=>exact⟨_,fun w=>by rw [binOp_eql];rfl,h⟩
 case neq=>exact⟨_,fun w=>by rw [binOp_neq];rfl,h⟩
 case lss=>exact⟨_,fun w=>by rw [binOp_lss];rfl,h⟩
 case leq=>exact⟨_,fun w=>by rw [binOp_leq];rfl,h⟩
 case gtr=>exact⟨_,fun w=>by rw [binOp_gtr];rfl,h⟩
 case geq=>exact⟨_,fun w=>by rw [binOp_geq];rfl,h⟩
 case and=>exact⟨_,fun w=>by rw [binOp_and,intBits_and];rfl,h⟩
 case or=>exact⟨_,fun w=>by rw [binOp_or,intBits_or];rfl,h⟩
 case xor=>exact⟨_,fun w=>by rw [binOp_xor,intBits_xor];rfl,h⟩
theorem S7 (o:BinOp) (T:Nat) (a b:ByteArray):binOp o T (.string a) (.string b)=Op.stringOp o a b:=by cases o<;>rfl
theorem A99 (o:BinOp) (T:Nat) (a b:ByteArray) (K:Value->Prop) (h:vStr P o T a b K):∃ v,(∀ w,(binOp o T (.string a) (.string b)).run P w=.ok v w)/\K v:=by
 cases o
 case add=>exact⟨_,fun w=>by rw [S7];simp only [Op.stringOp];rw [yo (by have:=h.1;simp only [IntKind.max_i64];omega)];rfl,h.2⟩
 case eql=>exact⟨_,fun w=>by rw [S7];simp only [Op.stringOp,V7];rfl,h⟩
 case neq=>exact⟨_,fun w=>by rw [S7];simp only [Op.stringOp,V7];rfl,h⟩
 case lss=>exact⟨_,fun w=>by rw [S7];simp only [Op.stringOp,V7];rfl,h⟩
 case leq=>exact⟨_,fun w=>by rw [S7];simp only [Op.stringOp,V7];rfl,h⟩
 case gtr=>exact⟨_,fun w=>by rw [S7];simp only [Op.stringOp,V7];rfl,h⟩
 case geq=>exact⟨_,fun w=>by rw [S7];simp only [Op.stringOp,V7];rfl,h⟩
 all_goals exact h
theorem A6J (o:BinOp) (T:Nat) (k y:IntKind) (a b:Int) (K:Value->Prop) (h:A6D P o T k y a b K):∃ v,(∀ w,(binOp o T (.int k a) (.int y b)).run P w=.ok v w)/\K v:=by
 cases o
 case shl=>exact⟨_,fun w=>by simp only [binOp_shl,shift_shl k y a b h.1.1 h.1.2];rfl,h.2⟩
 case shr=>exact⟨_,fun w=>by simp only [binOp_shr,shift_shr k y a b h.1.1 h.1.2];rfl,h.2⟩
 all_goals exact h
theorem B0A (B:Bool) (o:BinOp) (T:Nat) (g i:Operand) (x y:Value) (K:Value->Prop) (l:B=true->P.underlying T=some .bool) (h:C0i P B o T g i x y K):
  ∃ v,(∀ w,(do eqGuard o T g i x y;binOp o T x y:Sem Value).run P w=.ok v w)/\K v:=by
 unfold C0i at h;split at h
 ·rename_i k a e b;have j:∀ w,(eqGuard o T g i (.int k a) (.int e b)).run P w=.ok () w:=fun w=>by rw [eqGuard_at_int];rfl
  cases s:A0w o
  ·rw [s] at h;simp only [cond_false] at h;cases f:K7 k e
   ·rw [f] at h;exact h.elim
   ·rw [f] at h;have:=intSame_eq f;subst this;obtain⟨v,c,d⟩:=A98 o T k a b K h;exact⟨v,fun w=>by rw [yf,j,ye,c],d⟩
  ·rw [s] at h;obtain⟨v,c,d⟩:=A6J o T k e a b K h;exact⟨v,fun w=>by rw [yf,j,ye,c],d⟩
 ·rename_i a b;obtain⟨v,c,d⟩:=A99 o T a b K h;exact⟨v,fun w=>by rw [eqGuard_at_string,yf,yg,ye,c],d⟩
 ·rename_i a b;cases B
  ·exact h.elim
  ·have t:=l rfl;simp only [cond_true] at h;split at h
   ·exact⟨_,fun w=>by rw [eqGuard_at_bool,yf,yg,ye,run_eql_bool w T a b t],h⟩
   ·exact⟨_,fun w=>by rw [eqGuard_at_bool,yf,yg,ye,run_neq_bool w T a b t],h⟩
   ·exact h.elim
 ·exact h
theorem B1S (o:UnOp) (x:Value) (K:Value->Prop) (h:vUn P o x K):∃ v,(∀ w,(Op.unary o x).run P w=.ok v w)/\K v:=by
 unfold vUn at h;split at h
 ·exact⟨_,fun w=>rfl,h⟩
 ·exact⟨_,fun w=>by simp [Op.unary,Op.intArith],h⟩
 ·exact h
theorem K9 {w:World} {a:Addr}:∀ (cs:List Value) (i:Nat),cellsAt w a cs i->∀ j v,cs[j]?=some v->w.cell? (a.add (i+j))=some v
 | [],_,_,j,v,h=>by simp at h
 | c::r,i,⟨h1,h2⟩,j,v,h=>by
  cases j with
  | zero=>simp at h;subst h;simpa using h1
  | succ j=>
   have:=K9 r (i+1) h2 j v (by simpa using h);rwa [show i+1+j=i+(j+1) from by omega] at this
theorem O0 {t n:Nat} {d:TypeDesc} (u:P.underlying t=some d) (e:A0E d=true) (s:szN P t n) {w:World} {a:Addr} {c:List Value} (l:c.length=n) (b:cellsAt w a c 0):
  (loadVar t a).run P w=.ok (.agg c.toArray) w:=by
 simp only [loadVar,yf,A44 u,ye,e,if_true,I8 s];subst l;have:=run_loadCells_list (P:=P) w a c (fun j v h=>by have:=K9 c 0 b j v h;simpa using this);simp [this]
theorem D6 {t:Nat} {d:TypeDesc} (u:P.underlying t=some d) (b:A0E d=false) {w:World} {a:Addr} {v:Value} (h:w.cell? a=some v):
  (loadVar t a).run P w=.ok v w:=by
 simp only [loadVar,yf,A44 u,ye,b];simp [h]
theorem frozen?_setCell (w:World) (a b:Addr) (v:Value):(w.setCell a v).frozen? b=w.frozen? b:=by
 simp only [World.frozen?,World.setCell,Array.getElem?_modify];by_cases h:a.block=b.block
 ·rw [yn h];cases c:w.heap[b.block]? with
  | none=>rfl
  | some o=>cases o<;>rfl
 ·rw [yo h]
theorem A2B {a p:Addr} {u:Value}:∀ (cs:List Value) (w:World) (i:Nat),E0 w a cs i->E0 (w.setCell p u) a cs i
 | [],_,_,_=>trivial
 | v::r,w,i,⟨⟨x,h1⟩,h2,h3,h4⟩=>by
  refine⟨?_,by rw [frozen?_setCell];exact h2,h3,A2B r w (i+1) h4⟩;by_cases e:p=a.add i
  ·subst e;exact⟨u,World.cell?_setCell_same w _ _ h1⟩
  ·exact⟨x,by rw [World.cell?_setCell_other w p _ u e];exact h1⟩
theorem J9 {a:Addr}:∀ (cs:List Value) (w:World) (i:Nat),E0 w a cs i->(storeCells a cs i).run P w=.ok () (stored w a cs i)
 | [],w,i,_=>rfl
 | v::r,w,i,⟨⟨x,h1⟩,h2,h3,h4⟩=>by
  have h:(store (a.add i) v).run P w=.ok () (w.setCell (a.add i) v):=by rw [run_store P w _ v _ h3,h1];simp [h2]
  show (store (a.add i) v >>= fun _=>storeCells a r (i+1)).run P w=_;rw [yf,h];exact J9 r _ _ (A2B r w (i+1) h4)
theorem A8s {F:Array Field} {b:List (Nat × Nat × Bool)} (j:C0j P F b) {i o s:Nat} {g:Bool} (c:b[i]?=some (o,s,g)):
  ∃ f,F[i]?=some f/\f.offset=o/\szN P f.type s/\∃ d,P.underlying f.type=some d/\A0E d=g:=by
 have h:=yb (fun l=>l[i]?) j;simp only [List.getElem?_map,c,Option.map_some] at h;cases a:F.toList[i]? with
 | none=>rw [a] at h;cases h
 | some f=>
  rw [a] at h;simp only [Option.map_some,Option.some.injEq,Prod.mk.injEq] at h;obtain⟨k,m,e⟩:=h;refine⟨f,by simpa using a,k,m,?_⟩;cases u:P.underlying f.type with
  | none=>rw [u] at e;cases e
  | some d=>rw [u] at e;exact⟨d,rfl,by simpa using e⟩
theorem Runs.goes {s:Sem Value} {w:World} {K:Value->World->Prop} (h:Runs P s w K):Goes P K ((do pure (.value (<-s)):Sem Next).run P w):=by obtain⟨v,w',a,b⟩:=h;simp only [yf,a,ye,yg];exact b
theorem X6 {s:Sem Value} {w w':World} {v:Value} {K:Value->World->Prop} (h:s.run P w=.ok v w') (k:K v w'):Goes P K ((do pure (.value (<-s)):Sem Next).run P w):=
 Runs.goes ⟨v,w',h,k⟩
theorem A8t (o:Nat):∀ (l:List Value) (k:Nat) (cs:Array Value),
  (l.zipIdx k).foldl (fun (cs:Array Value) (x:Value × Nat)=>cs.setIfInBounds (o+x.2) x.1) cs=(C5 cs.toList (o+k) l).toArray
 | [],k,cs=>by simp [C5]
 | v::r,k,cs=>by simp only [List.zipIdx_cons,List.foldl_cons,C5];rw [A8t o r (k+1)];simp [Nat.add_assoc]
theorem A8u (o:Nat) (v:Value) (s:Array Value):
  v.cells.zipIdx.foldl (fun s (c,j)=>s.setIfInBounds (o+j) c) s=(C5 s.toList o v.cells.toList).toArray:=by
 have h:=A8t o v.cells.toList 0 s;rw [Nat.add_zero] at h;rw [<-h,<-Array.foldl_toList];congr 1;simp
theorem B6y (p:Array (Nat × Nat)) (f:List (Nat × Nat × Bool)) (c:∀ i:Nat,p[i]?=(f[i]?).map fun (x:Nat × Nat × Bool)=>(x.1,x.2.1)):
  ∀ (l:List (Nat × Value)) (cs r:List Value),A6E f cs l=some r->Instr.fill (p[·]?) cs.toArray l=some r.toArray
 | [],cs,r,h=>by simp [A6E] at h;subst h;rfl
 | (i,v)::l,cs,r,h=>by
  simp only [A6E] at h;cases a:f[i]? with
  | none=>rw [a] at h;cases h
  | some x=>
   obtain⟨o,size,g⟩:=x;rw [a] at h;simp only at h;cases b:(Nat.beq v.cells.size size&&Nat.ble (o+size) cs.length) with
   | false=>rw [b] at h;cases h
   | true=>
    rw [b] at h;simp only [z7] at b;have e:=z8 b.1;have j:=ze b.2;have d:p[i]?=some (o,size):=by rw [c,a];rfl
    simp only [Instr.fill,d];rw [yo (by simp;omega),A8u];exact B6y p f c l _ r h
theorem B1T (e:Nat):∀ (l:List (Nat × Value)) (cs r:List Value),A0l e cs l=some r->Instr.fill (fun i=>some (i*e,e)) cs.toArray l=some r.toArray
 | [],cs,r,h=>by simp [A0l] at h;subst h;rfl
 | (i,v)::l,cs,r,h=>by
  simp only [A0l] at h;cases b:(Nat.beq v.cells.size e&&Nat.ble (i*e+e) cs.length) with
  | false=>rw [b] at h;cases h
  | true=>
   rw [b] at h;simp only [z7] at b;have c:=z8 b.1;have a:=ze b.2;simp only [Instr.fill];rw [yo (by simp;omega),A8u];exact B1T e l _ r h
theorem A2v (z:List Value):∀ n,(V6 z n).length=n*z.length
 | 0=>by simp [V6]
 | n+1=>by simp [V6,A2v z n,Nat.succ_mul];omega
theorem A6K (z:List Value) (b:0<z.length):∀ (n i:Nat),i<n*z.length->(V6 z n)[i]?=z[i % z.length]?
 | 0,i,h=>by simp at h
 | n+1,i,h=>by
  simp only [V6];obtain a|a:=zm i z.length
  ·rw [List.getElem?_append_left a,Nat.mod_eq_of_lt a]
  ·rw [List.getElem?_append_right a,A6K z b n (i-z.length) (by rw [Nat.succ_mul] at h;omega),Nat.mod_eq_sub_mod a]
theorem A6L:∀ (v a b c:List Value),v.length=b.length->C5 (a++(b++c)) a.length v=a++(v++c)
 | [],a,b,c,h=>by
  have:b=[]:=zo h.symm;subst this;rfl
 | x::v,a,b,c,h=>by
  cases b with
  | nil=>cases h
  | cons y b=>
   have e:(a++(y::b++c)).set a.length x=(a++[x])++(b++c):=by rw [List.set_append_right _ _ (zc _),Nat.sub_self];simp
   have i:=A6L v (a++[x]) b c (by simpa using h);rw [z6,List.length_singleton] at i;rw [C5,e,i];simp
theorem B1U {e:Nat} {z:List Value} (a:z.length=e):∀ (l:List (Nat × Value)) (i:Nat) (cs done:List Value),done.length=i*e->A6F e i l=some cs->A0l e (done++V6 z l.length) l=some (done++cs)
 | [],i,cs,done,hd,h=>by
  simp only [A6F] at h;cases h;simp [V6,A0l]
 | (j,v)::r,i,cs,done,hd,h=>by
  simp only [A6F] at h;cases b:(Nat.beq j i&&Nat.beq v.cells.size e) with
  | false=>rw [b] at h;cases h
  | true=>
   rw [b] at h;simp only [z7] at b;have m:=z8 b.1;have k:=z8 b.2;subst m;cases t:A6F e (j+1) r with
   | none=>rw [t] at h;cases h
   | some g=>
    rw [t] at h;cases h;have d:v.cells.toList.length=z.length:=by rw [Array.length_toList,k,a]
    have c:=B1U a r (j+1) g (done++v.cells.toList) (by rw [z6,hd,d,a,Nat.succ_mul]) t;have f:(Nat.beq v.cells.size e&&Nat.ble (j*e+e) (done++V6 z ((j,v)::r).length).length)=true:=by rw [z7];refine⟨b.2,Nat.ble_eq_true_of_le ?_⟩;rw [z6,hd,A2v,zj,Nat.succ_mul,a];omega
    rw [A0l,f,zj,V6,<-hd,A6L _ _ _ _ d,<-zw];rw [zw done] at c;simpa [zw] using c
theorem B1V {e n:Nat} {z:List Value} (c:z.length=e) {l:List (Nat × Value)} {cs:List Value} (h:A6G e n z l=some cs):A0l e (V6 z n) l=some cs:=by
 unfold A6G at h;cases b:Nat.beq l.length n with
 | false=>rw [b] at h;exact h
 | true=>
  rw [b] at h;simp only [cond_true] at h;have a:=z8 b;cases f:A6F e 0 l with
  | none=>rw [f] at h;exact h
  | some t=>
   rw [f] at h;cases h;have:=B1U c l 0 cs [] (by simp) f;rw [<-a];simpa using this
theorem B4p (z:List Value) (a:0<z.length) (n:Nat):((Array.range (n*z.length)).map (fun i=>z.toArray[i % z.toArray.size]!))=(V6 z n).toArray:=by
 apply Array.ext
 ·simp [A2v]
 ·intro i d c;have b:i<n*z.length:=by simpa using d
  have h:i % z.length<z.length:=Nat.mod_lt _ a;have:=A6K z a n i b;rw [yc (by simpa using c),yc h] at this;simp only [Array.getElem_map,Array.getElem_range,List.getElem_toArray];rw [getElem!_pos _ _ (by simpa using h)];simpa using this.symm
theorem A7k {t:Nat} {d:TD} (h:B7W P t d) (a:d≠.none):∃ v,szV P t d.size v/\v.cells=d.zero.toArray/\d.zero.length=d.size:=by
 cases d with
 | none=>exact absurd rfl a
 | int k=>exact⟨_,h.2,rfl,rfl⟩
 | str=>exact⟨_,h.2,rfl,rfl⟩
 | bool=>exact⟨_,h.2,rfl,rfl⟩
 | slice e s=>exact⟨_,h.2.1,rfl,rfl⟩
 | array n e s z=>exact⟨_,h.2.1,rfl,rfl⟩
 | struct f z=>exact⟨_,h.2,rfl,rfl⟩
 | one z=>exact⟨_,h.2.1,h.2.2,rfl⟩
theorem A0G (k:IntKind) (n:Int) (y:Nat) (c:BoundsCode) (w:World) (h:0<=n) (a:n<=y):(Instr.sliceBound (.int k n) y c).run P w=.ok n.toNat w:=by simp only [Instr.sliceBound,asIntOf,yf,yg,ye];rw [yn ⟨h,a⟩];rfl
theorem V8 {f:Fr} {d:Nat} {x:Operand} {n:Int} (h:H7 f d (some x)=some n):∃ k,ev f x=.int k n:=by
 simp only [H7] at h;split at h
 ·rename_i k m e;simp at h;subst h;exact⟨k,e⟩
 ·cases h
theorem A1i (s:Bool) (f:Fr) (n p:Nat) (l d:Option Operand) (b a:Int) (w:World) (e:H7 f 0 l=some b) (j:H7 f n d=some a) (o:0<=b) (r:b<=a) (q:a<=p):
  (Instr.sliceBounds s n p (l.map (ev f)) (d.map (ev f)) none).run P w=.ok (b.toNat,a.toNat,p) w:=by
 have m:∀ c:BoundsCode,((match d.map (ev f) with | some v=>Instr.sliceBound v p c | none=>pure n:Sem Nat)).run P w=.ok a.toNat w:=by
  intro c;cases d with
  | none=>simp only [H7,Option.some.injEq] at j;subst j;simp
  | some x=>obtain⟨k,g⟩:=V8 j;simp only [Option.map_some,g];exact A0G k a p c w (by omega) q
 have h:((match l.map (ev f) with | some v=>Instr.sliceBound v a.toNat .sliceB | none=>pure 0:Sem Nat)).run P w=.ok b.toNat w:=by
  cases l with
  | none=>simp only [H7,Option.some.injEq] at e;subst e;simp
  | some x=>obtain⟨k,g⟩:=V8 e;simp only [Option.map_some,g];exact A0G k b a.toNat .sliceB w o (by omega)
 have i:=m (if s then .sliceAcap else .sliceAlen);simp only [Instr.sliceBounds,yf,yg,ye];cases d with
 | none=>
  simp only [Option.map_none] at i ⊢;simp only [yg,Result.ok.injEq] at i;rw [<-i.1] at h;cases l with
  | none=>simp only [Option.map_none,yg,Result.ok.injEq] at h ⊢;simp [h.1,i.1]
  | some x=>simp only [Option.map_some,Option.isSome_none,Bool.false_eq_true,if_false,yf,yg,ye] at h ⊢;rw [h];simp [i.1]
 | some y=>
  simp only [Option.map_some] at i ⊢;cases l with
  | none=>simp only [Option.map_none,yg,Result.ok.injEq] at h;simp [i,h.1]
  | some x=>simp only [Option.map_some,Option.isSome_none,Bool.false_eq_true,if_false,yf] at h ⊢;rw [i];simp only [ye];rw [h];simp
theorem A7l (s:Bool) (f:Fr) (e c:Nat) (o i x:Operand) (l h m:Int) (w:World) (d:H7 f 0 (some o)=some l) (u:H7 f e (some i)=some h) (y:H7 f c (some x)=some m)
  (p:0<=l) (z:l<=h) (A:h<=m) (a:m<=c):(Instr.sliceBounds s e c (some (ev f o)) (some (ev f i)) (some (ev f x))).run P w=.ok (l.toNat,h.toNat,m.toNat) w:=by
 obtain⟨j,g⟩:=V8 d;obtain⟨n,v⟩:=V8 u;obtain⟨k,b⟩:=V8 y;have r:=A0G (P:=P) k m c (if s then .slice3Acap else .slice3Alen) w (by omega) a;have t:=A0G (P:=P) n h m.toNat .slice3B w (by omega) (by omega);have q:=A0G (P:=P) j l h.toNat .slice3C w p (by omega);rw [g,v,b];simp only [Instr.sliceBounds,yf,r,ye,t,Option.isSome_some,if_true,q,yg]
theorem A2C (n:L.Ok P) (g:Builtin) (s:Array Nat) (T:Nat) (c:Array Bool) (i:List Value) (K:Value->Prop) (h:A2A P L g s T c i K):
  ∃ v,(∀ w,(builtin g s T c i.toArray).run P w=.ok (.value v) w)/\K v:=by
 unfold A2A at h;split at h
 ·rename_i t x l;have j:s=#[t]:=by apply Array.toList_inj.1;simpa using l
  subst j;have f:=n.ty t;have m:∀ v,(∀ w,(Builtin.len_ #[t] T #[x]).run P w=.ok v w)->K v->∃ v,(∀ w,(builtin .len #[t] T c [x].toArray).run P w=.ok (.value v) w)/\K v:=by intro v b e;refine⟨v,fun w=>?_,e⟩;show ((do pure (.value (<-Builtin.len_ #[t] T #[x])):Sem Next)).run P w=_;simp only [yf,b,ye,yg]
  generalize L.ty t=d at h f;cases d<;>cases x<;>first
   | exact (h:False).elim
   | (obtain⟨v,b,e⟩:=h;exact m v b e)
   | exact m _ (fun w=>by simp [Builtin.len_,run_underlying f.1,goInt]) h
 ·rename_i k x a y;exact⟨_,fun w=>by show ((do pure (.value (<-Builtin.min_ _ T #[.int k x,.int a y])):Sem Next)).run P w=_;simp only [yf,run_min_int2,ye,yg],h⟩
 ·rename_i k x a y;exact⟨_,fun w=>by show ((do pure (.value (<-Builtin.max_ _ T #[.int k x,.int a y])):Sem Next)).run P w=_;simp only [yf,run_max_int2,ye,yg],h⟩
 ·exact⟨_,fun w=>rfl,h⟩
 ·exact⟨_,fun w=>rfl,h⟩
 ·exact⟨_,fun w=>rfl,h⟩
 ·exact h
theorem X7 {a:Option Addr} {c e:Nat} {l b m:Option Int} {K:Value->Prop} (h:K8 a c e l b m K):
  ∃ i j:Int,l=some i/\b=some j/\∃ k,m=some k/\0<=i/\i<=j/\j<=k/\k<=c/\K (.slice (if k=i then a else a.map (·.add (i.toNat*e))) (j-i).toNat (k-i).toNat):=by
 unfold K8 at h;split at h
 ·exact⟨_,_,rfl,rfl,_,rfl,h.1.1,h.1.2.1,h.1.2.2.1,h.1.2.2.2,h.2⟩
 ·exact h.elim
theorem A07:∀ (l:List Field) (s:List (Nat × Nat × Bool)) (w:World),
  l.map (fun f=>(f.offset,(P.info? f.type).map (fun i=>i.size),(P.underlying f.type).map A0E))=s.map (fun x=>(x.1,some x.2.1,some x.2.2))->
  (l.mapM (fun f=>do pure (f.offset,<-sizeOf f.type)):Sem (List (Nat × Nat))).run P w=.ok (s.map fun (x:Nat × Nat × Bool)=>(x.1,x.2.1)) w
 | [],[],w,_=>rfl
 | [],_::_,w,h=>by simp at h
 | _::_,[],w,h=>by simp at h
 | f::l,x::s,w,h=>by simp only [List.map_cons,List.cons.injEq,Prod.mk.injEq] at h;obtain⟨⟨c,d,_⟩,b⟩:=h;have a:szN P f.type x.2.1:=d;simp only [List.mapM_cons,yf,I8 a,ye,yg,A07 l s w b,List.map_cons,c]
theorem B0B {F:Array Field} {f:List (Nat × Nat × Bool)} (h:C0j P F f) (w:World):
  (F.mapM (fun l=>do pure (l.offset,<-sizeOf l.type)):Sem (Array (Nat × Nat))).run P w=.ok (f.map fun (x:Nat × Nat × Bool)=>(x.1,x.2.1)).toArray w:=by
 have:=A07 F.toList f w h;rw [Array.mapM_eq_mapM_toList,Sem.run_map,this];rfl
theorem B9U (g:Operand->Value) (x:Array Operand):x.map g=(x.toList.map g).toArray:=by apply Array.toList_inj.1;simp
theorem E7 {s:Sem Value} {v:Value} {K:Value->Prop} (h:∀ w,s.run P w=.ok v w) (k:K v):∃ v,(∀ w,((do pure (.value (<-s)):Sem Next)).run P w=.ok (.value v) w)/\K v:=
 ⟨v,fun w=>by simp only [yf,h,ye,yg],k⟩
theorem A6M (m:L.Ok P) (T:Nat) (D:Op) (g:Fr) (K:Value->Prop) (h:pOp P L T D g K)
  (a2:Option Nat) (a4:String) (a0:Array Edge) (Y:Option (Nat × Bool)):∃ v,(∀ w,(execOp (ev g) ⟨a2,D,T,a4,a0,Y⟩).run P w=.ok (.value v) w)/\K v:=by
 cases D<;>simp only [pOp,K2,A0F,A1h,B1R] at h<;>simp only [execOp]
 case move x=>exact⟨_,fun _=>rfl,h⟩
 case assign x=>exact⟨_,fun _=>rfl,h⟩
 case pick c x y=>
  split at h
  ·rename_i O p;rw [p];cases O
   ·exact⟨_,fun _=>rfl,h⟩
   ·exact⟨_,fun _=>rfl,h⟩
  ·exact h.elim
 case binOp D t x y yt=>
  obtain⟨v,d,e⟩:=B0A (P:=P) (L.ty t).isBool D t x y (ev g x) (ev g y) K (fun p=>by have b:=m.ty t;cases u:L.ty t<;>rw [u] at p b<;>first | exact b.1 | cases p) h;exact E7 d e
 case unOp D t x=>
  obtain⟨v,d,e⟩:=B1S D (ev g x) K h;exact E7 d e
 case fieldAddr t x i=>
  split at h
  ·rename_i B I a l j;have b:=m.ty t;rw [l] at b;obtain⟨⟨S,F,M⟩,_⟩:=b;split at h
   ·rename_i a6 size W o;obtain⟨fl,d,e,q,_⟩:=A8s M o;cases H:Nat.beq size 0
    ·rw [H] at h;have a3:size≠0:=fun f=>by subst f;cases H
     refine E7 (fun w=>?_) h;simp [Instr.fieldAt,run_underlying F,d,j,Instr.sureAddr,fieldPlace,I8 q,a3,e]
    ·rw [H] at h;exact h.elim
   ·exact h.elim
  ·exact h.elim
 case field t x i=>
  split at h
  ·rename_i B I cs l j;have b:=m.ty t;rw [l] at b;obtain⟨⟨S,F,M⟩,_⟩:=b;split at h
   ·rename_i a6 size W o;obtain⟨fl,d,e,q,A,z,R⟩:=A8s M o;subst e;cases W
    ·simp only [cond_false] at h;split at h
     ·rename_i v hv;refine E7 (fun w=>?_) h;simp [Instr.field,run_underlying F,d,j,asAgg,part,A44 z,R,hv]
     ·exact h.elim
    ·refine E7 (fun w=>?_) h;simp [Instr.field,run_underlying F,d,j,asAgg,part,A44 z,R,I8 q]
   ·exact h.elim
  ·exact h.elim
 case build t ps=>
  have b:=m.ty t;generalize u:L.ty t=A at h b;cases A with
  | struct B I=>
   simp only at h;split at h
   ·rename_i cs Q;obtain⟨⟨S,F,M⟩,H⟩:=b;refine E7 (fun w=>?_) h;have a1:=B0B M;simp only [Instr.build,yf,G7 H,ye,run_underlying F,a1];have:=B6y (B.map fun (x:Nat × Nat × Bool)=>(x.1,x.2.1)).toArray B (fun i=>by simp) _ _ _ Q;simp only [Value.cells];rw [Array.toList_map,this];rfl
   ·exact h.elim
  | array n f G I=>
   simp only at h;split at h
   ·rename_i cs Q;refine E7 (fun w=>?_) h;have:=B1T G _ _ _ Q;simp only [Instr.build,yf,G7 b.2.1,ye,run_underlying b.1,I8 b.2.2];simp only [Value.cells];rw [Array.toList_map,this];rfl
   ·exact h.elim
  | _=>exact h.elim
 case index t x i=>
  have b:=m.ty t;generalize u:L.ty t=A at h b;generalize X:ev g x=vx at h;generalize o:ev g i=vi at h;split at h
  ·rename_i s k n;obtain⟨⟨h0,d⟩,e⟩:=h;refine E7 (fun w=>?_) e;have V:n.toNat<s.size:=by omega
   have hg:s[n.toNat]?=some (s.data.toList.getD n.toNat 0):=by
    have q:n.toNat<s.data.toList.length:=by rw [Array.length_toList];exact V
    rw [List.getD_eq_getElem?_getD,yc q,getElem?_pos s n.toNat V];rfl
   simp [Instr.index,asIntOf,run_underlying b.1,h0,hg]
  ·obtain⟨v,d,e⟩:=h;exact E7 d e
 case indexAddr t x i=>
  have b:=m.ty t;generalize u:L.ty t=A at h b;generalize X:ev g x=vx at h;generalize o:ev g i=vi at h;split at h
  ·rename_i f G a len N k n;obtain⟨⟨h0,d⟩,e⟩:=h;refine E7 (fun w=>?_) e;simp only [Instr.indexAt,asIntOf,yf,yg,ye,run_underlying b.1];rw [Sem.run_ite,yn ⟨h0,d⟩];simp only [yf,yg,ye,I8 b.2.2]
  ·rename_i len f G I a k n;obtain⟨⟨h0,d⟩,e⟩:=h;refine E7 (fun w=>?_) e;simp only [Instr.indexAt,Instr.sureAddr,asIntOf,yf,yg,ye,run_underlying b.1];rw [Sem.run_ite,yn ⟨h0,d⟩];simp only [yf,yg,ye,I8 b.2.2]
  ·exact h.elim
 case slice t x E o mx=>
  have b:=m.ty t;generalize u:L.ty t=A at h b;generalize X:ev g x=vx at h;split at h
  ·rename_i s;cases mx with
   | some _=>exact h.elim
   | none=>
    simp only at h;unfold A43 at h;split at h
    ·rename_i l' h' i C l j;obtain⟨⟨h0,d,e⟩,q⟩:=h;refine E7 (fun w=>?_) q;have p:=A1i (P:=P) false g s.size s.size E o i C w l j h0 d e;simp only [Instr.sliceAt,yf,run_underlying b.1,ye,Instr.slice,Option.map_none,Option.isSome_none,Bool.false_eq_true,if_false,yg,p]
    ·exact h.elim
  ·rename_i f G a len N;cases mx with
   | some mx=>
    cases E with
    | none=>exact h.elim
    | some E=>
     cases o with
     | none=>exact h.elim
     | some o=>
      simp only at h;obtain⟨i,C,l,j,k,r,h0,d,e,q,z⟩:=X7 h;refine E7 (fun w=>?_) z;have p:=A7l (P:=P) true g len N E o mx i C k w l j r h0 d e q;simp only [Instr.sliceAt,yf,run_underlying b.1,ye,Instr.slice,Option.map_some,p,yg,I8 b.2.2];congr 2
      ·by_cases f:k=i
       ·rw [yn f,yn (by omega)]
       ·rw [yo f,yo (by omega)]
      ·omega
      ·omega
   | none=>
    simp only at h;obtain⟨i,C,l,j,k,r,h0,d,e,q,z⟩:=X7 h;simp only [Option.some.injEq] at r;subst r;refine E7 (fun w=>?_) z;have p:=A1i (P:=P) true g len N E o i C w l j h0 d (by omega);simp only [Instr.sliceAt,yf,run_underlying b.1,ye,Instr.slice,Option.map_none,p,yg,I8 b.2.2];congr 2
    ·by_cases f:(N:Int)=i
     ·rw [yn f,yn (by omega)]
     ·rw [yo f,yo (by omega)]
    ·omega
    ·omega
  ·rename_i n f G I a;cases mx with
   | some _=>exact h.elim
   | none=>
    simp only at h;obtain⟨i,C,l,j,k,r,h0,d,e,q,z⟩:=X7 h;simp only [Option.some.injEq] at r;subst r;refine E7 (fun w=>?_) z;have p:=A1i (P:=P) false g n n E o i C w l j h0 d (by omega);simp only [Instr.sliceAt,Instr.sureAddr,yf,run_underlying b.1,ye,Option.map_none,p,yg,I8 b.2.2];congr 2
    ·by_cases f:(n:Int)=i
     ·rw [yn f,yn (by omega)]
     ·rw [yo f,yo (by omega)];rfl
    ·omega
    ·omega
  ·exact h.elim
 case extract x i=>
  split at h
  ·rename_i vs f;split at h
   ·rename_i v hv;refine E7 (fun w=>?_) h;have:vs[i]?=some v:=by simpa using hv
    simp [Instr.extract,f,this]
   ·exact h.elim
  ·exact h.elim
 case makeFunc fn B cs=>
  refine E7 (fun w=>?_) h;rw [B9U (ev g) B,B9U (ev g) cs];rfl
 case nilCheck x=>
  split at h
  ·rename_i a f;rw [f];exact⟨_,fun _=>rfl,h⟩
  ·rename_i n B cs f;rw [f];exact⟨_,fun _=>rfl,h⟩
  ·exact h.elim
 case makeInterface t x=>obtain⟨v,d,e⟩:=h;exact E7 d e
 case convert s A x=>
  split at h
  ·rename_i k k' k2 n l j r;have J:=m.ty s;have u:=m.ty A;rw [l] at J;rw [j] at u;exact E7 (fun w=>by simp [convert,run_underlying J.1,run_underlying u.1,r,Conv.intToInt]) h
  ·rename_i s' l j r;have J:=m.ty s;have u:=m.ty A;rw [l] at J;rw [j] at u;exact E7 (fun w=>by simp [convert,run_underlying J.1,run_underlying u.1,r]) h
  ·obtain⟨v,d,e⟩:=h;exact E7 d e
 case call c=>
  obtain⟨Z,a5,a7⟩:=c;cases Z with
  | invoke a8 a9=>exact h.elim
  | value fo=>exact h.elim
  | builtin O=>
   simp only at h;cases U:P7 O
   ·rw [U] at h;exact h.elim
   ·rw [U] at h;obtain⟨v,d,e⟩:=A2C m O a7 T _ _ K h;refine⟨v,fun w=>?_,e⟩;simp only [resolve,yf,yg,ye,invoke];rw [B9U (ev g) a5];exact d w
 all_goals exact h.elim
theorem A08 (m:L.Ok P) (T:Nat) (G:Op) (f:Fr) (w:World) (K:Value->World->Prop) (h:vOp P L T G f w K)
  (R:Option Nat) (S:String) (Q:Array Edge) (q:Option (Nat × Bool)):Goes P K ((execOp (ev f) ⟨R,G,T,S,Q,q⟩).run P w):=by
 have a7:pOp P L T G f (fun v=>K v w)->Goes P K ((execOp (ev f) ⟨R,G,T,S,Q,q⟩).run P w):=by intro N;obtain⟨v,b,e⟩:=A6M m T G f _ N R S Q q;rw [b];exact e
 cases G
 all_goals (try (exact a7 h))
 all_goals simp only [vOp,A0F,A1h,A2u] at h
 all_goals simp only [execOp]
 case load t x=>
  have j:=m.ty t;generalize u:L.ty t=d at h j;have B:∀ (a:Addr) (v:Value),ev f x=.pointer (some a)->(loadVar t a).run P w=.ok v w->K v w->Goes P K ((do pure (.value (<-Instr.loadAt t (ev f x))):Sem Next).run P w):=by intro a v g hr hk;refine X6 ?_ hk;simp [Instr.loadAt,g,Instr.sureAddr,hr]
  generalize hx:ev f x=vx at h B;cases vx with
  | pointer F=>
   cases F with
   | none=>cases d<;>exact h.elim
   | some a=>
    cases d with
    | none=>exact h.elim
    | array n g p a0=>
     obtain⟨cs,b,e,H⟩:=h;exact B a _ rfl (O0 j.1 rfl (A2t j.2.1) b e) H
    | struct fs a0=>
     obtain⟨cs,b,e,H⟩:=h;obtain⟨⟨b4,X,_⟩,z⟩:=j;exact B a _ rfl (O0 X rfl (A2t z) b e) H
    | int k=>obtain⟨v,b,e⟩:=h;exact B a _ rfl (D6 j.1 rfl b) e
    | str=>obtain⟨v,b,e⟩:=h;exact B a _ rfl (D6 j.1 rfl b) e
    | bool=>obtain⟨v,b,e⟩:=h;exact B a _ rfl (D6 j.1 rfl b) e
    | slice g s=>obtain⟨v,b,e⟩:=h;exact B a _ rfl (D6 j.1 rfl b) e
    | one a0=>obtain⟨v,b,e⟩:=h;obtain⟨⟨b0,X,hg⟩,_⟩:=j;exact B a _ rfl (D6 X hg b) e
  | _=>cases d<;>exact h.elim
 case store t x y=>
  have j:=m.ty t;generalize u:L.ty t=d at h j;generalize hx:ev f x=vx at h;have o:∀ a,d≠.none->vx=.pointer (some a)->cond (Nat.beq (ev f y).cells.toList.length d.size) (E0 w a (ev f y).cells.toList 0/\∀ w',E6 w a (ev f y).cells.toList w'->K undef w') False->
    Goes P K ((do (Instr.storeAt t vx (ev f y));pure .skip:Sem Next).run P w):=by
   intro a J E h;cases C:Nat.beq (ev f y).cells.toList.length d.size
   ·rw [C] at h;exact h.elim
   ·rw [C] at h;obtain⟨b,e⟩:=h;have g:=z8 C;obtain⟨v,z,_⟩:=A7k j J;have H:=e _ rfl;simp only [Instr.storeAt,E,Instr.sureAddr,storeVar,yf,yg,ye,I8 (A2t z)];rw [Sem.run_ite,yo (by simpa using g)];simp only [ye,J9 _ _ _ b];exact H
  cases vx with
  | pointer F=>
   cases F with
   | none=>cases d<;>exact h.elim
   | some a=>
    cases d<;>first
     | exact h.elim
     | exact o a (fun g=>by cases g) rfl h
  | _=>cases d<;>exact h.elim
 case alloc t=>
  have j:=m.ty t;generalize u:L.ty t=d at h j;have o:d≠.none->(∀ q w',New w d.zero t q w'->K (.pointer (some ⟨q,0,none⟩)) w')->Goes P K ((do pure (.value (<-Instr.alloc t true (.tuple #[]))):Sem Next).run P w):=by intro J h;obtain⟨v,z,M,_⟩:=A7k j J;refine X6 (w':=w.alloc (.cells d.zero.toArray t)) ?_ (h w.heap.size _ ⟨rfl,rfl⟩);simp [Instr.alloc,G7 z,newVar,newRow,M]
  cases d<;>first
   | exact h.elim
   | exact o (fun g=>by cases g) h
 case box t x=>
  refine X6 (w':=w.alloc (.cells (ev f x).cells t)) ?_ (h w.heap.size _ ⟨rfl,by simp⟩);simp [Instr.box,newVar,newRow]
 case buildSlice t n ps=>
  have j:=m.ty t;generalize u:L.ty t=d at h j;cases d with
  | slice g p=>
   simp only at h;cases z:(Nat.beq n 0&&A2s ps.toList) with
   | true=>
    rw [z] at h;simp only [cond_true] at h;simp only [z7] at z;have c1:=z8 z.1;have V:ps=#[]:=by
     obtain⟨l⟩:=ps;cases l with
     | nil=>rfl
     | cons a a1=>exact absurd z.2 (by simp [A2s])
    subst c1;subst V;refine X6 (w':=w.alloc (.cells #[] g)) ?_ (h w.heap.size _ ⟨rfl,rfl⟩);simp [Instr.buildSlice,run_underlying j.1,I8 j.2.2,Instr.fill,newRow];rw [show Array.range 0=#[] from Array.eq_empty_of_size_eq_zero (by simp),Array.map_empty]
   | false=>
   rw [z] at h;simp only [cond_false] at h;cases C:(Nat.ble (n*p) 16777216&&!Nat.beq p 0&&!Nat.beq n 0) with
   | false=>rw [C] at h;exact h.elim
   | true=>
    rw [C] at h;simp only [cond_true] at h;simp only [z7,Bool.not_eq_true'] at C;obtain⟨⟨b1,b2⟩,b3⟩:=C;have c1:=ze b1;have V:p≠0:=fun g=>by subst g;cases b2
    have c3:n≠0:=fun g=>by subst g;cases b3
    have te:=m.ty g;generalize b5:L.ty g=de at h te;have o:de≠.none->cond (Nat.beq de.size p) (match A6G p n de.zero (ps.toList.map fun F=>(F.1,ev f F.2)) with
      | some cs=>∀ q w',New w cs g q w'->K (.slice (some ⟨q,0,none⟩) n n) w'
      | none=>False) False->Goes P K ((do pure (.value (<-Instr.buildSlice t n (ps.map fun (i,x)=>(i,ev f x)))):Sem Next).run P w):=by
     intro J h;obtain⟨v,z,M,Y⟩:=A7k te J;cases O:Nat.beq de.size p with
     | false=>rw [O] at h;exact h.elim
     | true=>
      rw [O] at h;have D:=z8 O;simp only [cond_true] at h;split at h
      ·rename_i cs a9;refine X6 (w':=w.alloc (.cells cs.toArray g)) ?_ (h w.heap.size _ ⟨rfl,rfl⟩);have a4:=B1T p _ _ _ (B1V (Y.trans D) a9);have a6:n*p≠0:=Nat.mul_ne_zero c3 V;simp only [Instr.buildSlice,yf,run_underlying j.1,ye,I8 j.2.2];rw [yo (by omega)];simp only [yf,yg,ye,Sem.run_ite];rw [yo a6];simp only [ye,G7 z,M];have Z:=B4p de.zero (by omega) n;rw [Y,D] at Z;rw [Z,Array.toList_map,a4];simp [newRow]
      ·exact h.elim
    cases de<;>first
     | exact h.elim
     | exact o (fun g=>by cases g) h
  | _=>exact h.elim
 case convert s d x=>
  split at h
  ·rename_i k k' k2 n E A U;have D:=m.ty s;have u:=m.ty d;rw [E] at D;rw [A] at u;exact X6 (by simp [convert,run_underlying D.1,run_underlying u.1,U,Conv.intToInt]) h
  ·rename_i s' E A U;have D:=m.ty s;have u:=m.ty d;rw [E] at D;rw [A] at u;exact X6 (by simp [convert,run_underlying D.1,run_underlying u.1,U]) h
  ·exact Runs.goes h
 case makeMap t a1=>exact Runs.goes h
 case makeSlice t l c=>exact Runs.goes h
 case lookup t x i ok=>exact Runs.goes h
 case range t x=>exact Runs.goes h
 case next it s=>exact Runs.goes h
 case entry it=>exact Runs.goes h
 case mapUpdate t a2 k x=>
  obtain⟨w',b,e⟩:=h;simp only [yf,b,ye,yg];exact e
 case insert t a2 k x=>
  obtain⟨w',b,e⟩:=h;simp only [yf,b,ye,yg];exact e
 case call c=>
  obtain⟨a5,r,a8⟩:=c;cases a5 with
  | invoke a1 a2=>exact h.elim
  | builtin a3=>
   simp only at h;simp only [resolve,yf,yg,ye,invoke];cases N:P7 a3
   ·rw [N] at h;obtain⟨v,w',b,e⟩:=h;rw [B9U (ev f) r];exact Eq.mpr (yb (Goes P K) b) e
   ·rw [N] at h;simp only [cond_true] at h;obtain⟨v,b,e⟩:=A2C m a3 a8 T _ _ _ h;rw [B9U (ev f) r];exact Eq.mpr (yb (Goes P K) (b w)) e
  | value fo=>
   simp only at h;split at h
   ·rename_i n first I g
    have o:A0m P L n (first.toList++r.toList.map (ev f)++I.toList) w K:=by
     split at h
     ·rename_i E A;rw [E,A];simpa using h
     ·exact h
    unfold A0m at o;cases W:L.fns n with
    | false=>
     rw [W] at o;simp only [resolve,yf,yg,ye,g,Deferred.ofValue,invoke];have A:first++r.map (ev f)++I=(first.toList++r.toList.map (ev f)++I.toList).toArray:=by apply Array.toList_inj.1;simp
     rw [A];obtain⟨v,w',b,e⟩:=o.runs;exact Eq.mpr (yb (Goes P K) b) e
    | true=>
     rw [W] at o;have M:∀ (r:Array Value) (w:World),(callFunc n r).run P w=.ok (.enter n r) w:=m.fns n W;simp only [resolve,yf,yg,ye,g,Deferred.ofValue,invoke];have A:first++r.map (ev f)++I=(first.toList++r.toList.map (ev f)++I.toList).toArray:=by apply Array.toList_inj.1;simp
     rw [A,M];exact o.calls
   ·exact h.elim
theorem Agree.eval {n:Nat} {a:Act} {f:Fr} (h:Agree n a f):a.eval=ev f:=by
 funext x;cases x with
 | tmp t=>exact h.2.2 t
 | _=>rfl
theorem Agree.put {n:Nat} {a:Act} {f:Fr} (h:Agree n a f) {t:Nat} (d:t<n) (v:Value):Agree n (a.put (some t) v) (upd f t v):=by
 refine⟨h.1,by simp [Act.put,h.2.1],fun s=>?_⟩;unfold upd;cases b:Nat.beq s t with
 | true=>
  have:=z8 b;subst this;simp [Act.put,Array.getD_eq_getD_getElem?,h.2.1,d]
 | false=>
  have e:t≠s:=fun c=>by subst c;simp at b
  rw [cond_false,<-h.2.2 s];simp [Act.put,Array.getD_eq_getD_getElem?,Array.getElem?_setIfInBounds_ne e]
theorem A8v {f:Fr} {t:Nat} {v:Value} (a:f t=v):upd f t v=f:=by
 funext s;unfold upd;cases h:Nat.beq s t with
 | true=>have:=z8 h;subst this;exact a.symm
 | false=>rfl
theorem Agree.putO {n:Nat} {a:Act} {f:Fr} (h:Agree n a f) {d:Option Nat} (b:(match d with | some t=>Nat.blt t n | none=>true)=true) (v:Value):Agree n (a.put d v) (B9J f d v):=by
 cases d with
 | none=>exact h
 | some t=>exact h.put (ze b) v
theorem L3 (f:Fr) (d:Option Nat) (v:Value) (K:Fr->Prop):T8 f d v K=K (B9J f d v):=by cases d<;>rfl
theorem B0C {k:Nat} {c:Act} {f:Fr} (A:Agree k c f) {p:List Oper} {j t:Nat} {b:Bool} (h:J6 p f j=some (t,b)) {dst:Option Nat} {op:Op} {T:Nat} {pos:String} {after:Array Edge} {want:Bool}:
  upd f t (.bool b)=f/\Region.wanted ⟨dst,op,T,pos,after,some (j,want)⟩ (yielded p.toArray c.tmps)=(b==want):=by
 have d:f t=.bool b/\(p[j]?).bind (·.dst)=some t:=by
  unfold J6 at h;cases g:p[j]? with
  | none=>rw [g] at h;cases h
  | some o=>
   rw [g] at h;simp only at h;cases e:o.dst with
   | none=>rw [e] at h;cases h
   | some s=>
    rw [e] at h;simp only at h;cases i:f s<;>rw [i] at h<;>first
     | (cases h;exact⟨i,by simp [e]⟩)
     | (simp at h)
 refine⟨A8v d.1,?_⟩;have n:c.tmps[t]?=some (.bool b):=by
  have a:=A.2.2 t;rw [d.1] at a;rw [Array.getD_eq_getD_getElem?] at a;cases x:c.tmps[t]? with
  | none=>rw [x] at a;cases a
  | some l=>rw [x] at a;exact yb some a
 simp only [Region.wanted,yielded,List.getElem?_toArray,d.2,Option.bind_some,n];cases b<;>cases want<;>rfl
theorem A4O {n:Nat} {a:Act} {f:Fr} (A:Agree n a f) {p:List Oper} {j:Nat} (h:J6 p f j=none) {i:Option Nat} {k:Op} {T:Nat} {c:String} {t:Array Edge} {w:Bool}:
  Region.wanted ⟨i,k,T,c,t,some (j,w)⟩ (yielded p.toArray a.tmps)=false:=by
 have e:yielded p.toArray a.tmps j=none:=by
  unfold J6 at h;simp only [yielded,List.getElem?_toArray];cases g:p[j]? with
  | none=>rfl
  | some o=>
   rw [g] at h;simp only at h;cases d:o.dst with
   | none=>simp [d]
   | some s=>
    rw [d] at h;simp only at h;simp only [Option.bind_some,d];have b:=A.2.2 s;rw [Array.getD_eq_getD_getElem?] at b;cases l:a.tmps[s]? with
    | none=>rfl
    | some x=>
     rw [l] at b;simp only [Option.getD_some] at b;rw [<-b] at h;cases x<;>first | rfl | (simp at h)
 simp only [Region.wanted,e];cases w<;>rfl
theorem V9 (k:L.Ok P) (n:Nat) (p:List Oper) (K:Fr->World->Prop) (Q:Exit->Act->World->Prop) (q:∀ a f w,Agree n a f->K f w->Q .normal a w):
  ∀ (l:List Oper) (a:Act) (f:Fr) (w:World),Agree n a f->A0s n l=true->A6H P L p l f w K->wpList P p.toArray Q l a w
 | [],a,f,w,hA,_,h=>q a f w hA h
 | ⟨dst,op,T,pos,after,none⟩::r,a,f,w,hA,hd,h=>by
  simp only [A0s,z7] at hd;have c:vOp P L T op f w fun v w'=>T8 f dst v fun b=>A6H P L p r b w' K:=h;have g:=A08 k T op f w _ c dst pos after none;refine wpList_plain rfl fun Kn e=>?_;unfold Oper.wp;rw [hA.eval];refine g.upon _ _ _ _ fun v w' m=>e _ _ ?_;rw [L3] at m;exact V9 k n p K Q q r _ _ _ (hA.putO hd.1 v) hd.2 m
 | ⟨dst,op,T,pos,after,some (j,want)⟩::r,a,f,w,hA,hd,h=>by
  simp only [A0s,z7] at hd;have c:(match J6 p f j with
    | some (t,d)=>Bool.rec (motive:=fun _=>Prop)
      (cond want (T8 (upd f t (.bool false)) dst undef fun b=>A6H P L p r b w K)
       (vOp P L T op (upd f t (.bool false)) w fun v w'=>T8 (upd f t (.bool false)) dst v fun b=>A6H P L p r b w' K))
      (cond want (vOp P L T op (upd f t (.bool true)) w fun v w'=>T8 (upd f t (.bool true)) dst v fun b=>A6H P L p r b w' K)
       (T8 (upd f t (.bool true)) dst undef fun b=>A6H P L p r b w K)) d
    | none=>T8 f dst undef fun b=>A6H P L p r b w K):=h
  cases g:J6 p f j with
  | none=>
   rw [g] at c;simp only [L3] at c;refine wpList_step fun Kn e=>?_;rw [yo (by rw [A4O hA g];simp)];exact e _ _ (V9 k n p K Q q r _ _ _ (hA.putO hd.1 undef) hd.2 c)
  | some F=>
   obtain⟨t,d⟩:=F;rw [g] at c;simp only at c;have z:f t=.bool d/\(p[j]?).bind (·.dst)=some t:=by
    unfold J6 at g;cases B:p[j]? with
    | none=>rw [B] at g;cases g
    | some o=>
     rw [B] at g;simp only at g;cases x:o.dst with
     | none=>rw [x] at g;cases g
     | some s=>
      rw [x] at g;simp only at g;cases C:f s<;>rw [C] at g<;>first
       | (cases g;exact⟨C,by simp [x]⟩)
       | (simp at g)
   have H:upd f t (.bool d)=f:=A8v z.1;have G:a.tmps[t]?=some (.bool d):=by
    have i:=hA.2.2 t;rw [z.1] at i;rw [Array.getD_eq_getD_getElem?] at i;cases D:a.tmps[t]? with
    | none=>rw [D] at i;cases i
    | some I=>rw [D] at i;exact yb some i
   have E:Region.wanted ⟨dst,op,T,pos,after,some (j,want)⟩ (yielded p.toArray a.tmps)=(d==want):=by simp only [Region.wanted,yielded,List.getElem?_toArray,z.2,Option.bind_some,G];cases d<;>cases want<;>rfl
   have A:vOp P L T op f w (fun v w'=>T8 f dst v fun b=>A6H P L p r b w' K)->(d==want)=true->wpList P p.toArray Q (⟨dst,op,T,pos,after,some (j,want)⟩::r) a w:=by intro u y;have g:=A08 k T op f w _ u dst pos after (some (j,want));refine wpList_step fun Kn e=>?_;rw [yn (by rw [E];exact y)];unfold Oper.wp;rw [hA.eval];refine g.upon _ _ _ _ fun v w' m=>e _ _ ?_;rw [L3] at m;exact V9 k n p K Q q r _ _ _ (hA.putO hd.1 v) hd.2 m
   have no:T8 f dst undef (fun b=>A6H P L p r b w K)->(d==want)=false->wpList P p.toArray Q (⟨dst,op,T,pos,after,some (j,want)⟩::r) a w:=by intro u y;refine wpList_step fun Kn e=>?_;rw [yo (by rw [E,y];simp)];refine e _ _ ?_;rw [L3] at u;exact V9 k n p K Q q r _ _ _ (hA.putO hd.1 undef) hd.2 u
   cases d<;>cases want<;>simp only [cond_true,cond_false,H] at c
   ·exact A c rfl
   ·exact no c rfl
   ·exact no c rfl
   ·exact A c rfl
theorem B1W {f:Fr}:∀ {l:List (Nat × Value)},B4j f l->∀ {t:Nat} {v:Value},lk l t=some v->f t=v
 | (s,v')::r,⟨h1,h2⟩,t,v,h=>by
  simp only [lk] at h;cases b:Nat.beq t s with
  | true=>rw [b] at h;have:=z8 b;subst this;cases h;exact h1
  | false=>rw [b] at h;exact B1W h2 h
theorem A7m {f:Fr} {l:List (Nat × Value)} (a:B4j f l):mk l f=f:=by
 funext t;unfold mk;cases h:lk l t with
 | none=>rfl
 | some v=>exact (B1W a h).symm
def C00 (n:Nat) (K:Exit->Fr->World->Prop) (e:Exit) (a:Act) (w:World):Prop:=∃ f,Agree n a f/\K e f w
theorem X8 (hL:L.Ok P) (n:Nat):∀ (c:Code) (K:Exit->Fr->World->Prop) (a:Act) (f:Fr) (w:World),Agree n a f->P1 n c=true->S6 P L c f w K->c.wp P (C00 n K) a w:=by
 intro c;induction c with
 | skip=>intro K a f w A _ h;exact wp_skip ⟨f,A,h⟩
 | region m s M=>
  intro K a f w A b h;cases M with
  | true=>
   have g:Drawn P m s f w (K .normal):=h;exact wp_mono (g.wp n a b A) fun e a w ⟨W,Y,d,i⟩=>by subst W;exact⟨Y,d,i⟩
  | false=>
   have g:A6H P L s.toList s.toList f w (K .normal):=h;have:=V9 hL n s.toList (K .normal) (C00 n K) (fun a f w d i=>⟨f,d,i⟩) s.toList a f w A b g;exact wp_region_list (by simpa using this)
 | seq y C a3 D=>
  intro K a f w A b h;simp only [P1,z7] at b;have g:S6 P L y f w (B9S (S6 P L C) K):=h;refine wp_seq (wp_mono (a3 _ a f w A b.1 g) fun e G r ⟨j,d,i⟩=>?_);cases e with
  | normal=>exact D K G j r d b.2 i
  | _=>exact⟨j,d,i⟩
 | cond y C Z D O=>
  intro K a f w A b h;simp only [P1,z7] at b;have g:(match ev f y with
   | .bool t=>Bool.rec (motive:=fun _=>Prop) (S6 P L Z f w K) (S6 P L C f w K) t
   | _=>False):=h
  split at g
  ·rename_i t e;refine wp_cond (t:=t) (by rw [A.eval];exact e) ?_;cases t
   ·exact O K a f w A b.2 g
   ·exact D K a f w A b.1 g
  ·exact g.elim
 | block m a2 v=>
  intro K a f w A b h;refine wp_block (wp_mono (v _ a f w A b h) fun e G r ⟨j,d,i⟩=>?_);cases e with
  | exit u=>
   have l:cond (Nat.beq u m) (K .normal j r) (K (.exit u) j r):=i;show if u=m then _ else _
   cases q:Nat.beq u m with
   | true=>rw [q] at l;rw [yn (z8 q)];exact⟨j,d,l⟩
   | false=>rw [q] at l;rw [yo (fun e=>by subst e;simp at q)];exact⟨j,d,l⟩
  | _=>exact⟨j,d,i⟩
 | loop a2 v=>
  intro K a f w A b h;obtain⟨α,R,V,B,F,hf,N,S⟩:=h;refine wp_loop_ghost (fun k z o=>∃ x p,Agree n z p/\B4j p (R x)/\V x o/\B x o=k) (B F w) ⟨F,f,A,hf,N,rfl⟩ ?_;rintro k z o ⟨x,p,T,a0,a1,rfl⟩;have l:=S x o p a1;rw [A7m a0] at l;refine wp_mono (v _ z p o T b l) fun e a4 w3 ⟨I,J,E⟩=>?_;cases e with
  | normal=>
   obtain⟨H,U,Q,X⟩:=E;exact⟨B H w3,X,H,I,J,U,Q,rfl⟩
  | _=>exact⟨I,J,E⟩
 | rangeFunc=>intro K a f w A b h;exact h.elim
 | exit m=>intro K a f w A _ h;exact wp_exit ⟨f,A,h⟩
 | scope=>intro K a f w A b h;exact h.elim
 | label=>intro K a f w A b h;exact wp_label ⟨f,A,h⟩
 | goto=>intro K a f w A b h;exact h.elim
 | ret=>intro K a f w A b h;exact wp_ret ⟨f,A,h⟩
 | refuse=>intro K a f w A b h;exact h.elim
theorem A1j (m:L.Ok P) (n:Nat) (e:Act) (f:Fr) (w:World) (A:Agree n e f):
  ∀ (rs:List ResultVar) (g:List Value) (K:List Value->Prop),A6B L f w rs g K->
   ∃ l,(rs.mapM (fun | .tmp t=>pure (e.tmps.getD t undef) | .cell x t=>do loadVar t (<-asAddr (e.tmps.getD x undef))):Sem (List Value)).run P w=.ok l w/\K (g.reverse++l)
 | [],g,K,h=>⟨[],rfl,by rw [zx];exact h⟩
 | .tmp t::r,g,K,h=>by
  simp only [A6B,K2] at h;obtain⟨l,a,b⟩:=A1j m n e f w A r _ K h;refine⟨f t::l,?_,by simpa using b⟩;simp only [List.mapM_cons,yf,yg,ye,a,A.2.2 t]
 | .cell x t::r,g,K,h=>by
  have c:=m.ty t;have E:=A.2.2 x;have y:∀ (p:Addr) (v:Value),f x=.pointer (some p)->(loadVar t p).run P w=.ok v w->A6B L f w r (v::g) K->
    ∃ l,((ResultVar.cell x t::r).mapM (fun | .tmp t=>pure (e.tmps.getD t undef) | .cell x t=>do loadVar t (<-asAddr (e.tmps.getD x undef))):Sem (List Value)).run P w=.ok l w/\K (g.reverse++l):=by
   intro p v i B o;obtain⟨l,a,b⟩:=A1j m n e f w A r _ K o;refine⟨v::l,?_,by simpa using b⟩;have C:(asAddr (e.tmps.getD x undef)).run P w=.ok p w:=by rw [E,i];rfl
   simp only [List.mapM_cons,yf,C,B,ye,yg,a]
  simp only [A6B] at h;generalize H:L.ty t=d at h c;generalize M:f x=vx at h y;cases vx with
  | pointer p=>
   cases p with
   | none=>cases d<;>exact h.elim
   | some p=>
    cases d with
    | none=>exact h.elim
    | array n i F z=>
     obtain⟨cs,a,b,j⟩:=h;exact y p _ rfl (O0 c.1 rfl (A2t c.2.1) a b) j
    | struct I z=>
     obtain⟨cs,a,b,j⟩:=h;obtain⟨⟨J,u,_⟩,q⟩:=c;exact y p _ rfl (O0 u rfl (A2t q) a b) j
    | int k=>obtain⟨v,a,b⟩:=h;exact y p _ rfl (D6 c.1 rfl a) b
    | str=>obtain⟨v,a,b⟩:=h;exact y p _ rfl (D6 c.1 rfl a) b
    | bool=>obtain⟨v,a,b⟩:=h;exact y p _ rfl (D6 c.1 rfl a) b
    | slice i s=>obtain⟨v,a,b⟩:=h;exact y p _ rfl (D6 c.1 rfl a) b
    | one z=>obtain⟨v,a,b⟩:=h;obtain⟨⟨G,u,D⟩,_⟩:=c;exact y p _ rfl (D6 u D a) b
  | _=>cases d<;>exact h.elim
theorem B4q (l:List Value):(if h:l.toArray.size=1 then l.toArray[0] else .tuple l.toArray)=A6I l:=by
 match l with
 | []=>rfl
 | [v]=>rfl
 | v::u::r=>rw [dif_neg (by simp)];rfl
theorem Q5 (d:L.Ok P) (b:Nat) (a:Act) (f:Fr) (w:World) (A:Agree b a f) (n:Func) (R:Ending->World->Prop)
  (h:A6B L f w n.results.toList [] fun s=>R (.returned (A6I s)) w):∃ v,(results n a.tmps).run P w=.ok v w/\R (.returned v) w:=by
 obtain⟨l,c,e⟩:=A1j d b a f w A _ _ _ h;refine⟨A6I l,?_,by simpa using e⟩;unfold results;rw [yf,Array.mapM_eq_mapM_toList,Sem.run_map];refine (yb (fun (r:Result (List Value))=>(r.andThen fun a w'=>Result.ok a.toArray w').andThen fun (a:Array Value) w'=>Sem.run P (pure (if h:a.size=1 then a[0] else .tuple a)) w') c).trans ?_;simp only [ye,yg];rw [<-B4q]
theorem A45 (b:L.Ok P) {k:Nat} {f:Func} {c:Code} {r:List Value} {w:World} {R:Ending->World->Prop}
  (m:P.funcs[k]?=some f) (i:f.body=some c) (g:Nat.ble r.length f.ntmps=true) (n:P1 f.ntmps c=true)
  (j:S6 P L c (A7j r) w (fnK L f.results R)):Calls P k r.toArray w R:=by
 refine calls_of_wp m i ?_;have o:=ze g;have A:Agree f.ntmps { tmps:=r.toArray++Array.replicate (f.ntmps-r.toArray.size) undef,defers:=[] } (A7j r):=by
  refine⟨rfl,by simp;omega,fun t=>?_⟩;unfold A7j;rw [Array.getD_eq_getD_getElem?,List.getD_eq_getElem?_getD];obtain h|h:=zm t r.length
  ·rw [Array.getElem?_append_left (by simpa using h)];simp
  ·rw [Array.getElem?_append_right (by simpa using h),List.getElem?_eq_none h];simp only [Array.getElem?_replicate];split<;>rfl
 refine wp_mono (X8 b _ c _ _ _ w A n j) fun l a w ⟨e,h,d⟩=>?_;cases l with
 | normal=>exact⟨h.1,Q5 b _ a e w h f R d⟩
 | ret=>exact⟨h.1,Q5 b _ a e w h f R d⟩
 | _=>exact d.elim
theorem A09 {b:Bool} {T F:Prop} (h:b=true->T) (a:b=false->F):Bool.rec (motive:=fun _=>Prop) F T b:=by
 cases b
 ·exact a rfl
 ·exact h rfl
theorem B5 {b:Bool} {T F:Prop} (h:b=true) (a:T):Bool.rec (motive:=fun _=>Prop) F T b:=by subst h;exact a
theorem B4 {b:Bool} {T F:Prop} (h:b=false) (a:F):Bool.rec (motive:=fun _=>Prop) F T b:=by subst h;exact a
theorem dt {p:Prop} [Decidable p] {T F:Prop} (h:p) (a:T):Bool.rec (motive:=fun _=>Prop) F T (decide p):=B5 (zz h) a
theorem df {p:Prop} [Decidable p] {T F:Prop} (h:¬ p) (a:F):Bool.rec (motive:=fun _=>Prop) F T (decide p):=B4 (y8 h) a
end
#print axioms A45
end Go.Vc
end
section
namespace Go.Vc
open Go Go.RowKit
def Fut (S:Nat->Prop) (w:World) (S':Nat->Prop) (w':World):Prop:=(∀ b,S b->S' b)/\∀ b,S b->w'.heap[b]?=w.heap[b]?
theorem Fut.refl (S:Nat->Prop) (w:World):Fut S w S w:=⟨fun _ h=>h,fun _ _=>rfl⟩
theorem Fut.trans {e c S:Nat->Prop} {d w w'':World} (a:Fut e d c w) (k:Fut c w S w''):Fut e d S w'':=
 ⟨fun b h=>k.1 b (a.1 b h),fun b h=>(k.2 b (a.1 b h)).trans (a.2 b h)⟩
def ext (S:Nat->Prop) (w w':World):Nat->Prop:=fun b=>S b\/(w.heap.size<=b/\b<w'.heap.size)
abbrev LB:=Nat × Nat × List Value
def Blk (w:World) (g T:Nat) (cs:List Value):Prop:=w.heap[g]?=some (.cells cs.toArray T (0,0))
def Locs (S:Nat->Prop) (n0:Nat) (w:World):List LB->Prop
 | []=>True
 | (g,T,cs)::r=>n0<=g/\¬ S g/\Blk w g T cs/\(∀ x∈r,x.1≠g)/\Locs S n0 w r
theorem Blk.lt {w:World} {g T:Nat} {c:List Value} (h:Blk w g T c):g<w.heap.size:=by
 obtain l|a:=zm g w.heap.size
 ·exact l
 ·unfold Blk at h;rw [Array.getElem?_eq_none a] at h;cases h
theorem Blk.cell {w:World} {g T:Nat} {c:List Value} (h:Blk w g T c) (i:Nat):w.cell? ⟨g,i,none⟩=c[i]?:=by unfold Blk at h;simp [World.cell?,h]
theorem Blk.frozen {w:World} {g T:Nat} {c:List Value} (h:Blk w g T c) (i:Nat):w.frozen? ⟨g,i,none⟩=false:=by unfold Blk at h;simp [World.frozen?,h]
theorem Blk.of_eq {a w:World} {g T:Nat} {cs:List Value} (h:Blk a g T cs) (e:w.heap[g]?=a.heap[g]?):Blk w g T cs:=e.trans h
theorem New.below {w w':World} {c:List Value} {T g:Nat} (h:New w c T g w'):Below w.heap.size w w':=by obtain⟨rfl,rfl⟩:=h;exact (Below.refl _ _).alloc (zc _) _
theorem New.blk {a w:World} {cs:List Value} {T g:Nat} (h:New a cs T g w):Blk w g T cs:=by obtain⟨rfl,rfl⟩:=h;exact heap_alloc_new a _
theorem Locs.mono {b S:Nat->Prop} {n:Nat} {a w:World}:∀ {l:List LB},Locs b n a l->(∀ x∈l,w.heap[x.1]?=a.heap[x.1]?)->(∀ x∈l,S x.1->b x.1)->Locs S n w l
 | [],_,_,_=>trivial
 | (g,T,cs)::r,⟨h1,h2,h3,h4,h5⟩,he,hs=>
  ⟨h1,fun c=>h2 (hs _ (zv ..) c),h3.of_eq (he _ (zv ..)),h4,
   h5.mono (fun x h=>he x (zu _ h)) (fun x h=>hs x (zu _ h))⟩
theorem Locs.lt {S:Nat->Prop} {n:Nat} {w:World}:∀ {l:List LB},Locs S n w l->∀ x∈l,x.1<w.heap.size
 | (g,T,cs)::r,⟨h1,h2,h3,h4,h5⟩,x,hx=>by
  cases hx with
  | head=>exact h3.lt
  | tail _ h=>exact h5.lt x h
structure Ctx (S0:Nat->Prop) (w0:World) (S:Nat->Prop) (w:World) (l:List LB):Prop where
 below:Below w0.heap.size w0 w
 sub:∀ b,S0 b->S b
 new:∀ b,S b->S0 b\/w0.heap.size<=b
 lt:∀ b,S b->b<w.heap.size
 locs:Locs S w0.heap.size w l
section
variable {S0 S:Nat->Prop} {w0 w w':World} {l:List LB}
theorem Ctx.start (w:World) (S:Nat->Prop) (h:∀ b,S b->b<w.heap.size):Ctx S w S w []:=
 ⟨Below.refl _ _,fun _ h=>h,fun _ h=>.inl h,h,t6⟩
theorem B1X (l:∀ b,S b->b<w.heap.size) (a:Below w.heap.size w w'):Fut S w (ext S w w') w':=
 ⟨fun _ h=>.inl h,fun b h=>a.block b (l b h)⟩
theorem Ctx.loc (h:Ctx S0 w0 S w l) {cs:List Value} {T g:Nat} (N:New w cs T g w'):Ctx S0 w0 S w' ((g,T,cs)::l)/\Fut S w S w':=by
 have c:=N.below;have e:g=w.heap.size:=N.1;have f:Fut S w S w':=⟨fun _ a=>a,fun b a=>c.block b (h.lt b a)⟩;refine⟨⟨h.below.trans (c.mono h.below.size),h.sub,h.new,fun b a=>Nat.lt_of_lt_of_le (h.lt b a) c.size,?_⟩,f⟩;refine⟨by rw [e];exact h.below.size,fun a=>by have:=h.lt _ a;omega,N.blk,fun x d i=>?_,?_⟩
 ·have:=h.locs.lt x d;omega
 ·exact h.locs.mono (fun x d=>c.block _ (h.locs.lt x d)) (fun _ _ a=>a)
theorem Ctx.call (c:Ctx S0 w0 S w l) (a:Below w.heap.size w w'):Ctx S0 w0 (ext S w w') w' l/\Fut S w (ext S w w') w':=by
 refine⟨⟨c.below.trans (a.mono c.below.size),fun b h=>.inl (c.sub b h),fun b h=>?_,fun b h=>?_,?_⟩,B1X c.lt a⟩
 ·obtain h|h:=h
  ·exact c.new b h
  ·exact .inr (zq c.below.size h.1)
 ·obtain h|h:=h
  ·exact Nat.lt_of_lt_of_le (c.lt b h) a.size
  ·exact h.2
 ·refine c.locs.mono (fun x d=>a.block _ (c.locs.lt x d)) (fun x d h=>?_);obtain h|h:=h
  ·exact h
  ·have:=c.locs.lt x d;omega
theorem Ctx.quiet (h:Ctx S0 w0 S w l) (c:Below w.heap.size w w'):Ctx S0 w0 S w' l/\Fut S w S w':=by refine⟨⟨h.below.trans (c.mono h.below.size),h.sub,h.new,fun b a=>Nat.lt_of_lt_of_le (h.lt b a) c.size,?_⟩,⟨fun _ a=>a,fun b a=>c.block b (h.lt b a)⟩⟩;exact h.locs.mono (fun x d=>c.block _ (h.locs.lt x d)) (fun _ _ a=>a)
end
theorem Locs.get {S:Nat->Prop} {n:Nat} {w:World}:∀ {l:List LB},Locs S n w l->∀ {k g T:Nat} {cs:List Value},l[k]?=some (g,T,cs)->Blk w g T cs
 | (g,T,cs)::r,⟨_,_,h3,_,h5⟩,k,g',T',cs',h=>by
  cases k with
  | zero=>simp at h;obtain⟨rfl,rfl,rfl⟩:=h;exact h3
  | succ k=>exact h5.get (by simpa using h)
theorem Ctx.blk {S c:Nat->Prop} {a w:World} {l:List LB} (h:Ctx S a c w l) (k:Nat) {g T:Nat} {cs:List Value} (b:l[k]?=some (g,T,cs)):Blk w g T cs:=h.locs.get b
theorem Ctx.cell {S e:Nat->Prop} {a w:World} {l:List LB} (h:Ctx S a e w l) (k:Nat) {g T:Nat} {c:List Value} (b:l[k]?=some (g,T,c)) (i:Nat) {v:Value} (d:c[i]?=some v):w.cell? ⟨g,i,none⟩=some v:=
 ((h.blk k b).cell i).trans d
theorem C0 {w:World} {g T:Nat} {c:List Value} (h:Blk w g T c) (o:Nat):∀ (xs:List Value) (i:Nat),(∀ j v,xs[j]?=some v->c[o+i+j]?=some v)->cellsAt w ⟨g,o,none⟩ xs i
 | [],_,_=>trivial
 | v::r,i,hx=>by
  refine⟨?_,C0 h o r (i+1) (fun j u a=>?_)⟩
  ·rw [yi,h.cell];simpa using hx 0 v rfl
  ·have:=hx (j+1) u (by simpa using a);rwa [show o+i+(j+1)=o+(i+1)+j from by omega] at this
theorem Ctx.cells {S e:Nat->Prop} {a w:World} {l:List LB} (b:Ctx S a e w l) (k:Nat) {g T:Nat} {c:List Value} (d:l[k]?=some (g,T,c)):cellsAt w ⟨g,0,none⟩ c 0:=
 C0 (b.blk k d) 0 c 0 (fun j v h=>by simpa using h)
theorem Ctx.cellsAt {e S:Nat->Prop} {b w:World} {l:List LB} (d:Ctx e b S w l) (k:Nat) {g T:Nat} {c:List Value} (a:l[k]?=some (g,T,c)) (o:Nat) (x:List Value) (f:(c.drop o).take x.length=x):Go.Vc.cellsAt w ⟨g,o,none⟩ x 0:=
 C0 (d.blk k a) o x 0 (fun j v h=>by
  rw [<-f] at h;rw [List.getElem?_take] at h;split at h
  ·rw [List.getElem?_drop] at h;simpa using h
  ·cases h)
theorem A0H {w:World} {g T:Nat} {c:List Value} (h:Blk w g T c) (o:Nat):∀ (xs:List Value) (i:Nat),o+i+xs.length<=c.length->(∀ v∈xs,v.oneCell'=true)->E0 w ⟨g,o,none⟩ xs i
 | [],_,_,_=>trivial
 | v::r,i,hl,h1=>by
  simp only [zj] at hl;refine⟨⟨c[o+i]'(by omega),?_⟩,?_,h1 v (zv ..),A0H h o r (i+1) (by omega) (fun u a=>h1 u (zu _ a))⟩
  ·rw [yi,h.cell];exact yc (by omega)
  ·rw [yi];exact h.frozen _
def F4:List Value->Bool
 | []=>true
 | v::r=>v.oneCell'&&F4 r
theorem L8:∀ {l:List Value},F4 l=true->∀ v∈l,v.oneCell'=true
 | u::r,h,v,hv=>by
  simp only [F4,z7] at h;cases hv with
  | head=>exact h.1
  | tail _ a=>exact L8 h.2 v a
theorem Ctx.may {S d:Nat->Prop} {a w:World} {l:List LB} (h:Ctx S a d w l) (k:Nat) {g T:Nat} {c:List Value} (b:l[k]?=some (g,T,c)) (o:Nat) (x:List Value) (f:o+x.length<=c.length) (e:F4 x=true):E0 w ⟨g,o,none⟩ x 0:=
 A0H (h.blk k b) o x 0 (by omega) (L8 e)
theorem L9 {g T:Nat} (o:Nat):∀ (xs:List Value) (w:World) (i:Nat) (cs:List Value),Blk w g T cs->
  Blk (stored w ⟨g,o,none⟩ xs i) g T (C5 cs (o+i) xs)/\(∀ b,b≠g->(stored w ⟨g,o,none⟩ xs i).heap[b]?=w.heap[b]?)/\
   (stored w ⟨g,o,none⟩ xs i).heap.size=w.heap.size/\(stored w ⟨g,o,none⟩ xs i).os=w.os/\(stored w ⟨g,o,none⟩ xs i).tape=w.tape/\(stored w ⟨g,o,none⟩ xs i).output=w.output
 | [],w,i,cs,h=>⟨h,fun _ _=>rfl,rfl,rfl,rfl,rfl⟩
 | v::r,w,i,cs,h=>by
  have a:Blk (w.setCell ((⟨g,o,none⟩:Addr).add i) v) g T (cs.set (o+i) v):=by rw [yi];unfold Blk at h ⊢;simp only [World.setCell,Array.getElem?_modify];rw [yn trivial,h];simp
  obtain⟨e,k,c,j,d,f⟩:=L9 o r _ (i+1) _ a;refine⟨e,fun b n=>(k b n).trans ?_,c.trans (by simp),j.trans rfl,d.trans rfl,f.trans rfl⟩;rw [yi];exact Below.heap_setCell w _ v b n
def I2:List LB->Nat->List Value->List LB
 | [],_,_=>[]
 | (g,T,_)::r,0,cs=>(g,T,cs)::r
 | x::r,k+1,cs=>x::I2 r k cs
theorem O1:∀ {l:List LB} {k:Nat} {cs:List Value} {x:LB},x∈I2 l k cs->∃ y∈l,y.1=x.1
 | (g,T,c)::r,0,cs,x,h=>by
  simp only [I2] at h;cases h with
  | head=>exact⟨(g,T,c),zv ..,rfl⟩
  | tail _ h=>exact⟨x,zu _ h,rfl⟩
 | y::r,k+1,cs,x,h=>by
  simp only [I2] at h;cases h with
  | head=>exact⟨_,zv ..,rfl⟩
  | tail _ h=>obtain⟨z,a,b⟩:=O1 h;exact⟨z,zu _ a,b⟩
theorem Locs.set {S:Nat->Prop} {n:Nat} {d w:World}:∀ {l:List LB} {k g T:Nat} {cs s:List Value},Locs S n d l->l[k]?=some (g,T,cs)->Blk w g T s->(∀ b,b≠g->w.heap[b]?=d.heap[b]?)->Locs S n w (I2 l k s)
 | (g',T',c)::r,k,g,T,cs,s,⟨h1,h2,h3,h4,h5⟩,hk,hb,ho=>by
  cases k with
  | zero=>
   simp at hk;obtain⟨rfl,rfl,rfl⟩:=hk;exact⟨h1,h2,hb,h4,h5.mono (fun x h=>ho _ (h4 x h)) (fun _ _ f=>f)⟩
  | succ k=>
   have a:r[k]?=some (g,T,cs):=by simpa using hk
   have e:g≠g':=h4 _ (List.mem_of_getElem? a);refine⟨h1,h2,h3.of_eq (ho _ (Ne.symm e)),fun x h=>?_,h5.set a hb ho⟩;obtain⟨i,y,j⟩:=O1 h;rw [<-j];exact h4 i y
theorem Locs.notS {S:Nat->Prop} {n:Nat} {w:World}:∀ {l:List LB},Locs S n w l->∀ {k g T:Nat} {cs:List Value},l[k]?=some (g,T,cs)->¬ S g/\n<=g
 | (g,T,cs)::r,⟨h0,h2,h3,_,h5⟩,k,g',T',cs',h=>by
  cases k with
  | zero=>simp at h;obtain⟨rfl,rfl,rfl⟩:=h;exact⟨h2,h0⟩
  | succ k=>exact h5.notS (by simpa using h)
theorem Ctx.set {n S:Nat->Prop} {j w w':World} {l:List LB} (h:Ctx n j S w l) (k:Nat) {g T:Nat} {s:List Value} (a:l[k]?=some (g,T,s)) {o:Nat} {x:List Value} (r:E6 w ⟨g,o,none⟩ x w'):
  Ctx n j S w' (I2 l k (C5 s o x))/\Fut S w S w':=by
 obtain⟨i,d,e,p,f,m⟩:=L9 o x w 0 s (h.blk k a);rw [<-(show w'=_ from r)] at i d e p f m;obtain⟨t,u⟩:=h.locs.notS a;refine⟨⟨?_,h.sub,h.new,fun b c=>by rw [e];exact h.lt b c,h.locs.set a (by simpa using i) d⟩,⟨fun _ a=>a,fun b c=>d b (fun q=>t (q▸c))⟩⟩;exact h.below.trans ⟨p,f,m,by omega,fun b c=>d b (by omega)⟩
def Row (S:Nat->Prop) (w:World) (A:Option Addr) (n cap:Nat) (xs:List Value):Prop:=
 n<=cap/\cap<=maxLen/\(xs≠[]->∃ ad,A=some ad/\S ad.block/\∀ j u,xs[j]?=some u->w.cell? (ad.add j)=some u)
theorem P2 (a:Addr) (n:Nat):(a.add n).block=a.block:=by unfold Addr.add;split<;>rfl
theorem add_add (a:Addr) (i j:Nat):(a.add i).add j=a.add (i+j):=by unfold Addr.add;by_cases b:i=0<;>by_cases h:j=0<;>simp [b,h,Nat.add_assoc]
theorem Row.fut {b S:Nat->Prop} {a w:World} {A:Option Addr} {n c:Nat} {xs:List Value} (h:Row b a A n c xs) (f:Fut b a S w):Row S w A n c xs:=
 ⟨h.1,h.2.1,fun x=>by obtain⟨i,e,s,d⟩:=h.2.2 x;exact⟨i,e,f.1 _ s,fun j u g=>(World.cell?_of_block (f.2 _ (by rw [P2];exact s))).trans (d j u g)⟩⟩
theorem Row.get {S:Nat->Prop} {w:World} {A:Option Addr} {n c:Nat} {x:List Value} (d:Row S w A n c x) {i:Nat} (h:i<x.length):
  ∃ a,A=some a/\∀ j u,x[j]?=some u->w.cell? (a.add j)=some u:=by
 obtain⟨a,e,_,b⟩:=d.2.2 (fun e=>by subst e;simp at h);exact⟨a,e,b⟩
theorem A1A {w:World} {a:Addr} {x:List Value} (c:∀ j u,x[j]?=some u->w.cell? (a.add j)=some u) (o:Nat):∀ (y:List Value) (i:Nat),(∀ j u,y[j]?=some u->x[o+i+j]?=some u)->Go.Vc.cellsAt w (a.add o) y i
 | [],_,_=>trivial
 | v::r,i,h=>by
  refine⟨?_,A1A c o r (i+1) (fun j u b=>?_)⟩
  ·rw [add_add];exact c _ _ (by simpa using h 0 v rfl)
  ·have:=h (j+1) u (by simpa using b);rwa [show o+i+(j+1)=o+(i+1)+j from by omega] at this
def D4 (v:Value) (w:World) (e:Ending) (w':World):Prop:=e=.returned v/\Below w.heap.size w w'
theorem C1 {a b:Bool} (h:a=b):Ending.returned (.bool a)=.returned (.bool b):=by rw [h]
theorem A0x {k:IntKind} {a b:Int} (h:a=b):Ending.returned (.int k a)=.returned (.int k b):=by rw [h]
theorem Z9 {b:Int} {B:Prop} (h:b≠0) (k:B):b≠0/\B:=⟨h,k⟩
theorem B8 {P:Program} {n:Nat} {a:List Value} {w:World} {v:Value} {K:Value->World->Prop} (c:Calls P n a.toArray w (D4 v w))
  (k:∀ w',Below w.heap.size w w'->K v w'):CallVc P n a w K:=
 ⟨c.mono fun _ w' ⟨h,b⟩=>⟨v,h,k w' b⟩⟩
theorem Ctx.out {S e:Nat->Prop} {a w:World} {l:List LB} (d:Ctx S a e w l):Fut e w (ext S a w) w:=
 ⟨fun b c=>by
  obtain h|h:=d.new b c
  ·exact .inl h
  ·exact .inr ⟨h,d.lt b c⟩,fun _ _=>rfl⟩
section
variable {S0 S:Nat->Prop} {w0 w:World} {l:List LB} {g T:Nat} {cs xs:List Value} {o:Nat} {K:World->Prop}
theorem Ctx.s (c:Ctx S0 w0 S w l) (k:Nat) (a:l[k]?=some (g,T,cs)) (d:∀ w',E6 w ⟨g,o,none⟩ xs w'->Ctx S0 w0 S w' (I2 l k (C5 cs o xs))->K w') (b:Nat.ble (o+xs.length) cs.length=true:=by rfl) (e:F4 xs=true:=by rfl):E0 w ⟨g,o,none⟩ xs 0/\∀ w',E6 w ⟨g,o,none⟩ xs w'->K w':=
 ⟨c.may k a o xs (ze b) e,fun w' h=>d w' h (c.set k a h).1⟩
theorem Ctx.s' (c:Ctx S0 w0 S w l) (k:Nat) (a:l[k]?=some (g,T,cs)) (d:∀ w',E6 w ⟨g,o,none⟩ xs w'->Ctx S0 w0 S w' (I2 l k (C5 cs o xs))->K w') (b:Nat.ble (o+xs.length) cs.length=true:=by rfl) (e:F4 xs=true:=by rfl):E0 w ⟨g,o,none⟩ xs 0/\∀ w',E6 w ⟨g,o,none⟩ xs w'->True/\K w':=
 ⟨c.may k a o xs (ze b) e,fun w' h=>⟨t6,d w' h (c.set k a h).1⟩⟩
theorem Ctx.c (h:Ctx S0 w0 S w l) (k:Nat) (a:l[k]?=some (g,T,cs)) {i:Nat} {v:Value} {K:Value->Prop} (b:cs[i]?=some v) (c:K v):∃ v,w.cell? ⟨g,i,none⟩=some v/\K v:=⟨v,h.cell k a i b,c⟩
theorem Ctx.a (c:Ctx S0 w0 S w l) (k:Nat) (a:l[k]?=some (g,T,cs)) {n:Nat} {K:List Value->Prop} (h:cs.length=n) (b:K cs):∃ ds:List Value,ds.length=n/\Go.Vc.cellsAt w ⟨g,0,none⟩ ds 0/\K ds:=⟨cs,h,c.cells k a,b⟩
theorem Ctx.a' (c:Ctx S0 w0 S w l) (k:Nat) (a:l[k]?=some (g,T,cs)) {n:Nat} {K:List Value->Prop} (h:cs.length=n) (b:K cs):∃ ds:List Value,ds.length=n/\Go.Vc.cellsAt w ⟨g,0,none⟩ ds 0/\True/\K ds:=⟨cs,h,c.cells k a,t6,b⟩
theorem Ctx.n (c:Ctx S0 w0 S w l) {K:Nat->World->Prop} (k:∀ g w',New w cs T g w'->Ctx S0 w0 S w' ((g,T,cs)::l)->K g w'):∀ g w',New w cs T g w'->K g w':=fun g w' h=>k g w' h (c.loc h).1
theorem Ctx.n' (c:Ctx S0 w0 S w l) {K:Nat->World->Prop} (k:∀ g w',New w cs T g w'->Ctx S0 w0 S w' ((g,T,cs)::l)->K g w'):∀ g w',New w cs T g w'->True/\K g w':=fun g w' h=>⟨t6,k g w' h (c.loc h).1⟩
theorem Ctx.q (c:Ctx S0 w0 S w l) {P:Program} {n:Nat} {a:List Value} {v:Value} {K:Value->World->Prop} (b:Calls P n a.toArray w (D4 v w)) (k:∀ w',Below w.heap.size w w'->Ctx S0 w0 S w' l->K v w'):CallVc P n a w K:=B8 b fun w' h=>k w' h (c.quiet h).1
theorem Ctx.q' (c:Ctx S0 w0 S w l) {P:Program} {n:Nat} {a:List Value} {v:Value} {K:Value->World->Prop} (b:Calls P n a.toArray w (D4 v w)) (k:∀ w',Below w.heap.size w w'->Ctx S0 w0 S w' l->K v w'):CallVc P n a w (fun v w'=>True/\K v w'):=B8 b fun w' h=>⟨t6,k w' h (c.quiet h).1⟩
end
end Go.Vc
end
