import Derived.WalkKit
import Derived.Below
import Derived.Deep.Draws
import Derived.Laws.Cells
import Derived.Deep.LoopGhost
namespace Go
theorem z6:∀ {α:Type _} {as bs:List α},(as++bs).length=as.length+bs.length:=@List.length_append
theorem z7:∀ (a b:Bool),((a&&b)=true)=(a=true∧b=true):=Bool.and_eq_true
theorem z8:∀ {n m:Nat},Nat.beq n m=true→n=m:=@Nat.eq_of_beq_eq_true
theorem zb:∀ n:Nat,0≤n:=Nat.zero_le
theorem zc:∀ n:Nat,n≤n:=Nat.le_refl
theorem ze:∀ {n m:Nat},Nat.ble n m=true→n≤m:=@Nat.le_of_ble_eq_true
theorem zf:∀ {α:Type _} {i:Nat} {l:List α},(List.take i l).length=Min.min i l.length:=@List.length_take
theorem zg:∀ {α:Type _} {i:Nat} {l:List α},(List.drop i l).length=l.length-i:=@List.length_drop
theorem zh:∀ n:Nat,(n:Int).toNat=n:=Int.toNat_natCast
theorem zi:∀ {α:Type _} {a:α} {as:List α},(a::as).length=as.length+1:=@List.length_cons
theorem zj:∀ {α:Type _} {β:Type _} {as:List α} (f:α→β),(List.map f as).length=as.length:=@List.length_map
theorem zl:∀ a b:Nat,a<b∨a≥b:=Nat.lt_or_ge
theorem zm:∀ n:Nat,0+n=n:=Nat.zero_add
theorem zn:∀ {α:Type _} {l:List α},l.length=0→l=[]:=@List.eq_nil_of_length_eq_zero
theorem zo:∀ {n m k:Nat},n≤m→m≤k→n≤k:=@Nat.le_trans
theorem zq:∀ {α:Type _} {i:Nat} {l:List α},l.length≤i→List.drop i l=[]:=@List.drop_of_length_le
theorem zr:∀ {α:Type _} {a b:List (List α)},(a++b).flatten=a.flatten++b.flatten:=@List.flatten_append
theorem zt:∀ {α:Type _} (y:α) {a:α} {l:List α},a∈l→a∈y::l:=@List.mem_cons_of_mem
theorem zu:∀ {α:Type _} {a:α} {l:List α},a∈a::l:=@List.mem_cons_self
theorem zv:∀ {α:Type _} (a b c:List α),a++b++c=a++(b++c):=@List.append_assoc
theorem zw:∀ {α:Type _} (a:List α),a++[]=a:=@List.append_nil
theorem zx:∀ {α:Type _} {a b:α},a∈[b]↔a=b:=@List.mem_singleton
theorem zy:∀ {p:Prop} [Decidable p],p→decide p=true:=@decide_eq_true
theorem zz:∀ {p:Prop} [Decidable p],¬p→decide p=false:=@decide_eq_false
theorem y0:∀ {p:Prop} [Decidable p],(decide p=true)=p:=@decide_eq_true_eq
theorem y4:∀ {α:Type _} [BEq α] [LawfulBEq α] {a b:α},(a==b)=false↔a≠b:=@beq_eq_false_iff_ne
theorem y5:∀ {α:Sort _} {β:Sort _} {a b:α} (f:α→β),a=b→f a=f b:=@congrArg
theorem y6:∀ {c:Prop} {_:Decidable c},c→∀ {α:Sort _} {t e:α},(if c then t else e)=t:=@if_pos
theorem y7:∀ {c:Prop} {_:Decidable c},¬c→∀ {α:Sort _} {t e:α},(if c then t else e)=e:=@if_neg
end Go
set_option maxRecDepth 100000
set_option maxHeartbeats 40000000
set_option linter.unusedVariables false
set_option linter.unusedSimpArgs false
theorem Go.Vc.nle {a b:Nat} (h:Nat.ble a b=true):a<=b:=ze h
namespace Go.Vc
open Go
abbrev Fr:=Nat->Value
def upd (f:Fr) (t:Nat) (v:Value):Fr:=fun s=>bif Nat.beq s t then v else f s
def B6P (f:Fr) (d:Option Nat) (v:Value):Fr:=match d with | some t=>upd f t v | none=>f
def ev (f:Fr):Operand->Value
 | .tmp t=>f t
 | .const v=>v
 | .global g=>.pointer (some ⟨g,0,none⟩)
 | .func n=>.func (.func n) #[] #[]
def P1 (v:Value) (K:Value->Prop):Prop:=
 match v with
 | .bool b=>K (.bool b)
 | .int k n=>K (.int k n)
 | .float k n=>K (.float k n)
 | .complex k n m=>K (.complex k n m)
 | .string s=>K (.string s)
 | .pointer a=>K (.pointer a)
 | .slice a n c=>K (.slice a n c)
 | .map r=>K (.map r)
 | .chan r=>K (.chan r)
 | .func f a c=>K (.func f a c)
 | .nilFunc=>K .nilFunc
 | .iface t x=>K (.iface t x)
 | .nilIface=>K .nilIface
 | .agg cs=>K (.agg cs)
 | .tuple cs=>K (.tuple cs)
inductive TD where
 | none
 | int (k:IntKind)
 | str
 | bool
 | slice (e esz:Nat)
 | array (n e esz:Nat) (z:List Value)
 | struct (fs:List (Nat × Nat × Bool)) (z:List Value)
 | one (z:Value)
def TD.isAgg:TD->Bool
 | .array ..=>true
 | .struct ..=>true
 | _=>false
def TD.size:TD->Nat
 | .none=>0
 | .array _ _ _ z=>z.length
 | .struct _ z=>z.length
 | _=>1
def TD.zero:TD->List Value
 | .none=>[]
 | .int k=>[.int k 0]
 | .str=>[.string ByteArray.empty]
 | .bool=>[.bool false]
 | .slice ..=>[Value.slice Option.none 0 0]
 | .array _ _ _ z=>z
 | .struct _ z=>z
 | .one z=>[z]
def A9N:List (Nat × TD)->Nat->TD
 | [],_=>.none
 | (s,d)::r,t=>bif Nat.beq t s then d else A9N r t
def A9O:List Nat->Nat->Bool
 | [],_=>false
 | s::r,t=>bif Nat.beq t s then true else A9O r t
structure Lay where
 ty:Nat->TD
 fns:Nat->Bool
def cellsAt (w:World) (a:Addr):List Value->Nat->Prop
 | [],_=>True
 | v::r,i=>w.cell? (a.add i)=some v/\cellsAt w a r (i+1)
def Runs (P:Program) (s:Sem Value) (w:World) (k:Value->World->Prop):Prop:=∃ v w',s.run P w=.ok v w'/\k v w'
def Pure (P:Program) (s:Sem Value) (k:Value->Prop):Prop:=∃ v,(∀ w,s.run P w=.ok v w)/\k v
def G7:IntKind->IntKind->Bool
 | .i8,.i8=>true | .i16,.i16=>true | .i32,.i32=>true | .i64,.i64=>true
 | .u8,.u8=>true | .u16,.u16=>true | .u32,.u32=>true | .u64,.u64=>true
 | _,_=>false
def D3 (a b:ByteArray):Bool:=a.data.toList==b.data.toList
def C6 (a b:ByteArray):Bool:=Op.bytesLess a.data.toList b.data.toList
def B6Q (P:Program) (op:BinOp) (T:Nat) (k:IntKind) (a b:Int) (K:Value->Prop):Prop:=
 match op with
 | .add=>K (.int k (k.wrap (a+b)))
 | .sub=>K (.int k (k.wrap (a-b)))
 | .mul=>K (.int k (k.wrap (a*b)))
 | .eql=>K (.bool (a==b))
 | .neq=>K (.bool (a != b))
 | .lss=>K (.bool (decide (a<b)))
 | .leq=>K (.bool (decide (a<=b)))
 | .gtr=>K (.bool (decide (b<a)))
 | .geq=>K (.bool (decide (b<=a)))
 | .quo=>b≠0/\K (.int k (k.wrap (a.tdiv b)))
 | .rem=>b≠0/\K (.int k (a.tmod b))
 | .and=>K (.int k (bits .and k a b))
 | .or=>K (.int k (bits .or k a b))
 | .xor=>K (.int k (bits .xor k a b))
 | _=>Pure P (binOp op T (.int k a) (.int k b)) K
def vStr (P:Program) (op:BinOp) (T:Nat) (a b:ByteArray) (K:Value->Prop):Prop:=
 match op with
 | .add=>a.size+b.size<=9223372036854775807/\K (.string (a++b))
 | .eql=>K (.bool (D3 a b))
 | .neq=>K (.bool (!D3 a b))
 | .lss=>K (.bool (C6 a b))
 | .leq=>K (.bool (C6 a b||D3 a b))
 | .gtr=>K (.bool (!(C6 a b||D3 a b)))
 | .geq=>K (.bool (!C6 a b))
 | _=>Pure P (binOp op T (.string a) (.string b)) K
def Y5:BinOp->Bool
 | .shl=>true
 | .shr=>true
 | _=>false
def A4W (P:Program) (op:BinOp) (T:Nat) (k yk:IntKind) (a b:Int) (K:Value->Prop):Prop:=
 match op with
 | .shl=>(0<=b/\b<=k.bits)/\K (.int k (k.wrap (a*2 ^ b.toNat)))
 | .shr=>(0<=b/\b<=k.bits)/\K (.int k (a / 2 ^ b.toNat))
 | _=>Pure P (binOp op T (.int k a) (.int yk b)) K
def TD.isBool:TD->Bool
 | .bool=>true
 | _=>false
def B7n (P:Program) (isB:Bool) (op:BinOp) (T:Nat) (ox oy:Operand) (x y:Value) (K:Value->Prop):Prop:=
 match x,y with
 | .int k a,.int k' b=>
  bif Y5 op then A4W P op T k k' a b K
  else bif G7 k k' then B6Q P op T k a b K else False
 | .string a,.string b=>vStr P op T a b K
 | .bool a,.bool b=>cond isB
  (match op with
  | .eql=>K (.bool (a==b))
  | .neq=>K (.bool (!(a==b)))
  | _=>False) False
 | x,y=>Pure P (do eqGuard op T ox oy x y;binOp op T x y) K
def vUn (P:Program) (op:UnOp) (x:Value) (K:Value->Prop):Prop:=
 match op,x with
 | .not,.bool b=>K (.bool (!b))
 | .neg,.int k n=>K (.int k (k.wrap (0-n)))
 | op,x=>Pure P (Op.unary op x) K
def A2u (v:Value) (K:List Value->Prop):Prop:=
 match v with
 | .agg cs=>K cs.toList
 | .bool b=>K [.bool b]
 | .int k n=>K [.int k n]
 | .float k n=>K [.float k n]
 | .complex k n m=>K [.complex k n m]
 | .string s=>K [.string s]
 | .pointer a=>K [.pointer a]
 | .slice a n c=>K [.slice a n c]
 | .map r=>K [.map r]
 | .chan r=>K [.chan r]
 | .func f a c=>K [.func f a c]
 | .nilFunc=>K [.nilFunc]
 | .iface t x=>K [.iface t x]
 | .nilIface=>K [.nilIface]
 | .tuple cs=>K [.tuple cs]
def C0:List Value->Nat->List Value->List Value
 | cs,_,[]=>cs
 | cs,i,v::r=>C0 (cs.set i v) (i+1) r
def A4X (fs:List (Nat × Nat × Bool)):List Value->List (Nat × Value)->Option (List Value)
 | cs,[]=>some cs
 | cs,(i,v)::r=>match fs[i]? with
  | some (off,size,_)=>bif Nat.beq v.cells.size size&&Nat.ble (off+size) cs.length then A4X fs (C0 cs off v.cells.toList) r else none
  | none=>none
def X2 (esz:Nat):List Value->List (Nat × Value)->Option (List Value)
 | cs,[]=>some cs
 | cs,(i,v)::r=>bif Nat.beq v.cells.size esz&&Nat.ble (i*esz+esz) cs.length then X2 esz (C0 cs (i*esz) v.cells.toList) r else none
def P2 (z:List Value):Nat->List Value
 | 0=>[]
 | n+1=>z++P2 z n
def A1X {α:Type}:List α->Bool
 | []=>true
 | _::_=>false
def A4Y (esz:Nat):Nat->List (Nat × Value)->Option (List Value)
 | _,[]=>some []
 | i,(j,v)::r=>bif Nat.beq j i&&Nat.beq v.cells.size esz then (match A4Y esz (i+1) r with | some t=>some (v.cells.toList++t) | none=>none) else none
def A4Z (esz n:Nat) (z:List Value) (l:List (Nat × Value)):Option (List Value):=
 bif Nat.beq l.length n then (match A4Y esz 0 l with | some cs=>some cs | none=>X2 esz (P2 z n) l) else X2 esz (P2 z n) l
def B4H (f:Fr):List (Nat × Operand)->(List (Nat × Value)->Prop)->Prop
 | [],K=>K []
 | (i,x)::r,K=>P1 (ev f x) fun v=>B4H f r fun l=>K ((i,v)::l)
def A9K (f:Fr):List Operand->(List Value->Prop)->Prop
 | [],K=>K []
 | x::r,K=>P1 (ev f x) fun v=>A9K f r fun l=>K (v::l)
def New (w:World) (cs:List Value) (T:Nat) (g:Nat) (w':World):Prop:=g=w.heap.size/\w'=w.alloc (.cells cs.toArray T)
def stored:World->Addr->List Value->Nat->World
 | w,_,[],_=>w
 | w,a,v::r,i=>stored (w.setCell (a.add i) v) a r (i+1)
def D0 (w:World) (a:Addr) (cs:List Value) (w':World):Prop:=w'=stored w a cs 0
def C7 (w:World) (a:Addr):List Value->Nat->Prop
 | [],_=>True
 | v::r,i=>(∃ u,w.cell? (a.add i)=some u)/\w.frozen? (a.add i)=false/\v.oneCell'=true/\C7 w a r (i+1)
structure CallVc (P:Program) (n:Nat) (args:List Value) (w:World) (K:Value->World->Prop):Prop where
 calls:Calls P n args.toArray w (fun e w'=>∃ v,e=.returned v/\K v w')
structure ExtVc (P:Program) (n:Nat) (args:List Value) (w:World) (K:Value->World->Prop):Prop where
 runs:∃ v w',(callFunc n args.toArray).run P w=.ok (.value v) w'/\K v w'
def X3 (P:Program) (L:Lay) (n:Nat) (args:List Value) (w:World) (K:Value->World->Prop):Prop:=
 cond (L.fns n) (CallVc P n args w K) (ExtVc P n args w K)
def B6R (a:Addr) (n:Nat) (K:Value->Prop):Prop:=
 match a,n with
 | ⟨b,o,s⟩,0=>K (.pointer (some ⟨b,o,s⟩))
 | ⟨b,o,_⟩,n=>K (.pointer (some ⟨b,o+n,none⟩))
def E6 (f:Fr) (d:Nat):Option Operand->Option Int
 | none=>some d
 | some x=>match ev f x with | .int _ n=>some n | _=>none
def A3P (s:ByteArray) (l h:Option Int) (K:Value->Prop):Prop:=
 match l,h with
 | some l,some h=>(0<=l/\l<=h/\h<=s.size)/\K (.string (s.extract l.toNat h.toNat))
 | _,_=>False
def G8 (a:Option Addr) (cap esz:Nat) (l h m:Option Int) (K:Value->Prop):Prop:=
 match l,h,m with
 | some l,some h,some m=>(0<=l/\l<=h/\h<=m/\m<=cap)/\K (.slice (if m=l then a else a.map (·.add (l.toNat*esz))) (h-l).toNat (m-l).toNat)
 | _,_,_=>False
def L6:Builtin->Bool
 | .len=>true
 | .min=>true
 | .max=>true
 | .real=>true
 | .imag=>true
 | .complex=>true
 | .cap=>true
 | _=>false
def A0u (P:Program) (L:Lay) (b:Builtin) (ats:Array Nat) (T:Nat) (cs:Array Bool) (xs:List Value) (K:Value->Prop):Prop:=
 match b,ats.toList,xs with
 | .len,[t],[x]=>match L.ty t,x with
  | .str,.string s=>K (.int .i64 s.size)
  | .slice ..,.slice _ n _=>K (.int .i64 n)
  | .array n ..,_=>K (.int .i64 n)
  | _,x=>Pure P (Builtin.len_ ats T #[x]) K
 | .min,_,[.int k x,.int _ y]=>K (.int k (if y<x then y else x))
 | .max,_,[.int k x,.int _ y]=>K (.int k (if y > x then y else x))
 | .real,_,[.complex k re _]=>K (.float k re)
 | .imag,_,[.complex k _ im]=>K (.float k im)
 | .complex,_,[.float .f64 re,.float .f64 im]=>K (.complex .f64 re im)
 | b,_,xs=>∃ v,(∀ w,(builtin b ats T cs xs.toArray).run P w=.ok (.value v) w)/\K v
noncomputable def pOp (P:Program) (L:Lay) (T:Nat) (op:Op) (f:Fr) (K:Value->Prop):Prop:=
 match op with
 | .move x=>P1 (ev f x) K
 | .assign x=>P1 (ev f x) K
 | .pick c x y=>match ev f c with
  | .bool b=>Bool.rec (motive:=fun _=>Prop) (P1 (ev f y) K) (P1 (ev f x) K) b
  | _=>False
 | .binOp op t x y _=>B7n P (L.ty t).isBool op t x y (ev f x) (ev f y) K
 | .unOp op _ x=>vUn P op (ev f x) K
 | .convert s d x=>match L.ty s,L.ty d,ev f x with
  | .int _,.int k',.int _ n=>K (.int k' (k'.wrap n))
  | .str,.str,.string s=>K (.string s)
  | _,_,x=>Pure P (convert s d x) K
 | .fieldAddr t x i=>match L.ty t,ev f x with
  | .struct fs _,.pointer (some a)=>match fs[i]? with
   | some (off,size,_)=>cond (Nat.beq size 0) False (B6R a off K)
   | none=>False
  | _,_=>False
 | .field t x i=>match L.ty t,ev f x with
  | .struct fs _,.agg cs=>match fs[i]? with
   | some (off,size,g)=>cond g (K (.agg (cs.extract off (off+size)))) (match cs[off]? with
    | some v=>P1 v K
    | none=>False)
   | none=>False
  | _,_=>False
 | .build t ps=>match L.ty t with
  | .struct fs z=>B4H f ps.toList fun l=>match A4X fs z l with
   | some cs=>K (.agg cs.toArray)
   | none=>False
  | .array _ _ esz z=>B4H f ps.toList fun l=>match X2 esz z l with
   | some cs=>K (.agg cs.toArray)
   | none=>False
  | _=>False
 | .index t x i=>match L.ty t,ev f x,ev f i with
  | .str,.string s,.int _ n=>(0<=n/\n<s.size)/\K (.int .u8 ((s.data.toList.getD n.toNat 0).toNat:Int))
  | _,x,i=>Pure P (Instr.index t x i) K
 | .indexAddr t x i=>match L.ty t,ev f x,ev f i with
  | .slice _ esz,.slice (some a) len _,.int _ n=>(0<=n/\n<len)/\K (.pointer (some (a.add (n.toNat*esz))))
  | .array len _ esz _,.pointer (some a),.int _ n=>(0<=n/\n<len)/\K (.pointer (some (a.add (n.toNat*esz))))
  | _,_,_=>False
 | .slice t x lo hi mx=>match L.ty t,ev f x with
  | .str,.string s=>match mx with
   | none=>A3P s (E6 f 0 lo) (E6 f s.size hi) K
   | some _=>False
  | .slice _ esz,.slice a len cap=>match mx with
   | none=>G8 a cap esz (E6 f 0 lo) (E6 f len hi) (some cap) K
   | some m=>match lo,hi with
    | some l,some h=>G8 a cap esz (E6 f 0 (some l)) (E6 f len (some h)) (E6 f cap (some m)) K
    | _,_=>False
  | .array n _ esz _,.pointer (some a)=>match mx with
   | none=>G8 (some a) n esz (E6 f 0 lo) (E6 f n hi) (some n) K
   | some _=>False
  | _,_=>False
 | .extract x i=>match ev f x with
  | .tuple vs=>match vs.toList[i]? with
   | some v=>P1 v K
   | none=>False
  | _=>False
 | .makeFunc fn fs cs=>A9K f fs.toList fun fs=>A9K f cs.toList fun cs=>K (.func fn fs.toArray cs.toArray)
 | .nilCheck x=>match ev f x with
  | .pointer (some a)=>K (.pointer (some a))
  | .func (.func n) fs cs=>K (.func (.func n) fs cs)
  | _=>False
 | .call c=>match c.callee with
  | .builtin b=>cond (L6 b) (A9K f c.args.toList fun xs=>A0u P L b c.argTypes T (c.args.map fun | .const _=>true | _=>false) xs K) False
  | _=>False
 | .makeInterface t x=>Pure P (Instr.makeInterface t (ev f x)) K
 | _=>False
noncomputable def vOp (P:Program) (L:Lay) (T:Nat) (op:Op) (f:Fr) (w:World) (K:Value->World->Prop):Prop:=
 match op with
 | .load t x=>match L.ty t,ev f x with
  | .none,_=>False
  | .array _ _ _ z,.pointer (some a)=>∃ cs:List Value,cs.length=z.length/\cellsAt w a cs 0/\K (.agg cs.toArray) w
  | .struct _ z,.pointer (some a)=>∃ cs:List Value,cs.length=z.length/\cellsAt w a cs 0/\K (.agg cs.toArray) w
  | _,.pointer (some a)=>∃ v,w.cell? a=some v/\K v w
  | _,_=>False
 | .store t x y=>match L.ty t,ev f x with
  | .none,_=>False
  | d,.pointer (some a)=>A2u (ev f y) fun cs=>cond (Nat.beq cs.length d.size) (C7 w a cs 0/\∀ w',D0 w a cs w'->K undef w') False
  | _,_=>False
 | .alloc t=>match L.ty t with
  | .none=>False
  | d=>∀ g w',New w d.zero t g w'->K (.pointer (some ⟨g,0,none⟩)) w'
 | .box t x=>A2u (ev f x) fun cs=>∀ g w',New w cs t g w'->K (.pointer (some ⟨g,0,none⟩)) w'
 | .buildSlice t n ps=>match L.ty t with
  | .slice e esz=>cond (Nat.beq n 0&&A1X ps.toList) (∀ g w',New w [] e g w'->K (.slice (some ⟨g,0,none⟩) 0 0) w') (cond (Nat.ble (n*esz) 16777216&&!Nat.beq esz 0&&!Nat.beq n 0) (
    match L.ty e with
    | .none=>False
    | d=>cond (Nat.beq d.size esz)
     (B4H f ps.toList fun l=>match A4Z esz n d.zero l with
     | some cs=>∀ g w',New w cs e g w'->K (.slice (some ⟨g,0,none⟩) n n) w'
     | none=>False) False)
   False)
  | _=>False
 | .call c=>match c.callee with
  | .builtin b=>A9K f c.args.toList fun xs=>cond (L6 b)
   (A0u P L b c.argTypes T (c.args.map fun | .const _=>true | _=>false) xs fun v=>K v w)
   (∃ v w',(builtin b c.argTypes T (c.args.map fun | .const _=>true | _=>false) xs.toArray).run P w=.ok (.value v) w'/\K v w')
  | .value fo=>match ev f fo with
   | .func (.func n) first captured=>A9K f c.args.toList fun xs=>match first.toList,captured.toList with
    | [],[]=>X3 P L n xs w K
    | fs,cs=>X3 P L n (fs++xs++cs) w K
   | _=>False
  | .invoke ..=>False
 | .convert s d x=>match L.ty s,L.ty d,ev f x with
  | .int _,.int k',.int _ n=>K (.int k' (k'.wrap n)) w
  | .str,.str,.string s=>K (.string s) w
  | _,_,x=>Runs P (convert s d x) w K
 | .makeMap t r=>Runs P (Instr.makeMap t (r.map (ev f))) w K
 | .makeSlice t l c=>Runs P (Instr.makeSlice t (ev f l) (ev f c)) w K
 | .lookup t x i ok=>Runs P (Instr.lookup t (ev f x) (ev f i) ok) w K
 | .mapUpdate t m k x=>∃ w',(Instr.mapUpdate t (ev f m) (ev f k) (ev f x)).run P w=.ok () w'/\K undef w'
 | .insert t m k x=>∃ w',(Instr.mapUpdate t (ev f m) (ev f k) (ev f x)).run P w=.ok () w'/\K undef w'
 | .range t x=>Runs P (Instr.range t (ev f x)) w K
 | .next it s=>Runs P (Instr.next (ev f it) s T) w K
 | .entry it=>Runs P (Instr.entry (ev f it)) w K
 | op=>pOp P L T op f fun v=>K v w
def G3 (ops0:List Oper) (f:Fr) (j:Nat):Option (Nat × Bool):=
 match ops0[j]? with
 | some o=>match o.dst with
  | some t=>match f t with
   | .bool b=>some (t,b)
   | _=>none
  | none=>none
 | none=>none
def N6 (f:Fr) (d:Option Nat) (v:Value) (K:Fr->Prop):Prop:=match d with | some t=>K (upd f t v) | none=>K f
noncomputable def A4a (P:Program) (L:Lay) (ops0:List Oper) (l:List Oper):Fr->World->(Fr->World->Prop)->Prop:=
 List.rec (motive:=fun _=>Fr->World->(Fr->World->Prop)->Prop) (fun f w K=>K f w)
  (fun o _ ih f w K=>match o with
   | ⟨dst,op,T,_,_,none⟩=>vOp P L T op f w fun v w'=>N6 f dst v fun f'=>ih f' w' K
   | ⟨dst,op,T,_,_,some (j,want)⟩=>match G3 ops0 f j with
    | some (t,b)=>Bool.rec (motive:=fun _=>Prop)
      (cond want (N6 (upd f t (.bool false)) dst undef fun f'=>ih f' w K)
       (vOp P L T op (upd f t (.bool false)) w fun v w'=>N6 (upd f t (.bool false)) dst v fun f'=>ih f' w' K))
      (cond want (vOp P L T op (upd f t (.bool true)) w fun v w'=>N6 (upd f t (.bool true)) dst v fun f'=>ih f' w' K)
       (N6 (upd f t (.bool true)) dst undef fun f'=>ih f' w K)) b
    | none=>N6 f dst undef fun f'=>ih f' w K) l
def lk:List (Nat × Value)->Nat->Option Value
 | [],_=>none
 | (s,v)::r,t=>bif Nat.beq t s then some v else lk r t
def mk (l:List (Nat × Value)) (u:Fr):Fr:=fun t=>match lk l t with | some v=>v | none=>u t
def B19 (f:Fr):List (Nat × Value)->Prop
 | []=>True
 | (t,v)::r=>f t=v/\B19 f r
def Agree (n:Nat) (a:Act) (f:Fr):Prop:=a.defers=[]/\a.tmps.size=n/\∀ t,a.tmps.getD t undef=f t
def Y1 (n:Nat):List Oper->Bool
 | []=>true
 | o::r=>(match o.dst with | some t=>Nat.blt t n | none=>true)&&Y1 n r
structure Drawn (P:Program) (id:Nat) (ops:Array Oper) (f:Fr) (w:World) (K:Fr->World->Prop):Prop where
 wp:∀ (n:Nat) (a:Act),Y1 n ops.toList=true->Agree n a f->(Code.region id ops true).wp P (fun e a' w'=>e=.normal/\∃ f',Agree n a' f'/\K f' w') a w
def B6Y (b:Fr->World->(Exit->Fr->World->Prop)->Prop) (K:Exit->Fr->World->Prop) (e:Exit) (f:Fr) (w:World):Prop:=
 match e with
 | .normal=>b f w K
 | e=>K e f w
def A6p (id:Nat) (K:Exit->Fr->World->Prop) (e:Exit) (f:Fr) (w:World):Prop:=
 match e with
 | .exit i=>cond (Nat.beq i id) (K .normal f w) (K (.exit i) f w)
 | e=>K e f w
def B6Z {α:Type} (st:α->List (Nat × Value)) (inv:α->World->Prop) (μ:α->World->Nat) (x:α) (w0:World) (K:Exit->Fr->World->Prop) (e:Exit) (f:Fr) (w:World):Prop:=
 match e with
 | .normal=>∃ x',B19 f (st x')/\inv x' w/\μ x' w<μ x w0
 | e=>K e f w
noncomputable def M9 (P:Program) (L:Lay) (c:Code):Fr->World->(Exit->Fr->World->Prop)->Prop:=
 Code.rec (motive:=fun _=>Fr->World->(Exit->Fr->World->Prop)->Prop)
  (fun f w K=>K .normal f w)
  (fun id ops d f w K=>cond d (Drawn P id ops f w (K .normal)) (A4a P L ops.toList ops.toList f w (K .normal)))
  (fun _ _ iha ihb f w K=>iha f w (B6Y ihb K))
  (fun c _ _ iha ihb f w K=>match ev f c with
   | .bool t=>Bool.rec (motive:=fun _=>Prop) (ihb f w K) (iha f w K) t
   | _=>False)
  (fun id _ ih f w K=>ih f w (A6p id K))
  (fun _ ih f w K=>∃ (α:Type) (st:α->List (Nat × Value)) (inv:α->World->Prop) (μ:α->World->Nat) (x0:α),
   B19 f (st x0)/\inv x0 w/\∀ (x:α) (w':World) (u:Fr),inv x w'->ih (mk (st x) u) w' (B6Z st inv μ x w' K))
  (fun _ _ _ _ _ _ _ _ _=>False)
  (fun id f w K=>K (.exit id) f w)
  (fun _ _ _ _ _=>False)
  (fun _ f w K=>K .normal f w)
  (fun _ _ _ _=>False)
  (fun f w K=>K .ret f w)
  (fun _ _ _ _=>False) c
def A4S (L:Lay) (f:Fr) (w:World):List ResultVar->List Value->(List Value->Prop)->Prop
 | [],vs,K=>K vs.reverse
 | .tmp t::r,vs,K=>P1 (f t) fun v=>A4S L f w r (v::vs) K
 | .cell a t::r,vs,K=>match L.ty t,f a with
  | .none,_=>False
  | .array _ _ _ z,.pointer (some p)=>∃ cs:List Value,cs.length=z.length/\cellsAt w p cs 0/\A4S L f w r (.agg cs.toArray::vs) K
  | .struct _ z,.pointer (some p)=>∃ cs:List Value,cs.length=z.length/\cellsAt w p cs 0/\A4S L f w r (.agg cs.toArray::vs) K
  | _,.pointer (some p)=>∃ v,w.cell? p=some v/\A4S L f w r (v::vs) K
  | _,_=>False
def A4b:List Value->Value
 | [v]=>v
 | vs=>.tuple vs.toArray
def fnK (L:Lay) (rs:Array ResultVar) (R:Ending->World->Prop) (e:Exit) (f:Fr) (w:World):Prop:=
 match e with
 | .normal=>A4S L f w rs.toList [] fun vs=>R (.returned (A4b vs)) w
 | .ret=>A4S L f w rs.toList [] fun vs=>R (.returned (A4b vs)) w
 | _=>False
def A52 (args:List Value):Fr:=fun t=>args.getD t undef
def K7 (n:Nat):Code->Bool
 | .region _ ops _=>Y1 n ops.toList
 | .seq a b=>K7 n a&&K7 n b
 | .cond _ a b=>K7 n a&&K7 n b
 | .block _ b=>K7 n b
 | .loop b=>K7 n b
 | _=>true
end Go.Vc
section
namespace Go.Vc
open Go
def szV (P:Program) (t n:Nat) (v:Value):Prop:=(P.info? t).map (fun i=>(i.size,i.zero))=some (n,some v)
def szN (P:Program) (t n:Nat):Prop:=(P.info? t).map (fun i=>i.size)=some n
def U2:TypeDesc->Bool
 | .struct _=>true
 | .array ..=>true
 | _=>false
def B7o (P:Program) (F:Array Field) (fs:List (Nat × Nat × Bool)):Prop:=
 F.toList.map (fun fl=>(fl.offset,(P.info? fl.type).map (fun i=>i.size),(P.underlying fl.type).map U2))=fs.map fun x=>(x.1,some x.2.1,some x.2.2)
theorem D8 {P:Program} {t n:Nat} {v:Value} (h:(P.info? t).map (fun i=>(i.size,i.zero))=some (n,some v)):szV P t n v:=h
theorem A2i {P:Program} {t n:Nat} (h:(P.info? t).map (fun i=>i.size)=some n):szN P t n:=h
theorem fs_ {P:Program} {F:Array Field} {fs:List (Nat × Nat × Bool)}
  (h:F.toList.map (fun fl=>(fl.offset,(P.info? fl.type).map (fun i=>i.size),(P.underlying fl.type).map U2))=fs.map fun x=>(x.1,some x.2.1,some x.2.2)):B7o P F fs:=h
def B4m (P:Program) (t:Nat):TD->Prop
 | .none=>True
 | .int k=>P.underlying t=some (.int k)/\szV P t 1 (.int k 0)
 | .str=>P.underlying t=some .string/\szV P t 1 (.string ByteArray.empty)
 | .bool=>P.underlying t=some .bool/\szV P t 1 (.bool false)
 | .slice e esz=>P.underlying t=some (.slice e)/\szV P t 1 (.slice none 0 0)/\szN P e esz
 | .array n e esz z=>P.underlying t=some (.array n e)/\szV P t z.length (.agg z.toArray)/\szN P e esz
 | .struct fs z=>(∃ F,P.underlying t=some (.struct F)/\B7o P F fs)/\szV P t z.length (.agg z.toArray)
 | .one z=>(∃ d,P.underlying t=some d/\U2 d=false)/\szV P t 1 z/\z.cells=#[z]
def B4n (P:Program):List (Nat × TD)->Prop
 | []=>True
 | (t,d)::r=>B4m P t d/\B4n P r
def B8n (P:Program) (n:Nat):Prop:=∀ (args:Array Value) (w:World),(callFunc n args).run P w=.ok (.enter n args) w
def B4o (P:Program):List Nat->Prop
 | []=>True
 | n::r=>B8n P n/\B4o P r
structure Lay.Ok (P:Program) (L:Lay):Prop where
 ty:∀ t,B4m P t (L.ty t)
 fns:∀ n,L.fns n=true->B8n P n
theorem lay_ok {P:Program} {tys:List (Nat × TD)} {fl:List Nat} (h:B4n P tys) (g:B4o P fl):Lay.Ok P ⟨A9N tys,A9O fl⟩:=by
 constructor
 ·intro t;show B4m P t (A9N tys t);induction tys with
  | nil=>trivial
  | cons x r ih=>
   obtain⟨s,d⟩:=x;simp only [A9N];cases hb:Nat.beq t s
   ·exact ih h.2
   ·have:=z8 hb;subst this;exact h.1
 ·intro n;show A9O fl n=true->_;induction fl with
  | nil=>intro h;cases h
  | cons x r ih=>
   simp only [A9O];cases hb:Nat.beq n x
   ·exact ih g.2
   ·have:=z8 hb;subst this;exact fun _=>g.1
section
variable {P:Program} {L:Lay}
theorem A1Y {t n:Nat} {v:Value} (h:szV P t n v):szN P t n:=by
 unfold szV at h;unfold szN;cases hi:P.info? t with
 | none=>rw [hi] at h;cases h
 | some i=>rw [hi] at h;simp at h;simp [h.1]
theorem C4I {t n:Nat} (h:szN P t n) (w:World):(sizeOf t).run P w=.ok n w:=by
 unfold szN at h;cases hi:P.info? t with
 | none=>rw [hi] at h;cases h
 | some i=>rw [hi] at h;simp at h;simp [sizeOf,typeInfo,hi,h]
theorem D9 {t n:Nat} {v:Value} (h:szV P t n v) (w:World):(zeroValue t).run P w=.ok v w:=by
 unfold szV at h;cases hi:P.info? t with
 | none=>rw [hi] at h;cases h
 | some i=>rw [hi] at h;simp at h;simp [zeroValue,typeInfo,hi,h.2]
theorem A3Q {t:Nat} {d:TypeDesc} (h:P.underlying t=some d) (w:World):(isAgg t).run P w=.ok (U2 d) w:=by simp only [isAgg,Sem.run_bind,run_underlying h,Result.andThen_ok];cases d<;>rfl
def Goes (P:Program) (K:Value->World->Prop):Result Next->Prop
 | .ok (.value v) w=>K v w
 | .ok .skip w=>K undef w
 | .ok (.enter f args) w=>Calls P f args w (fun e w'=>∃ v,e=.returned v/\K v w')
 | _=>False
theorem Goes.upon {K:Value->World->Prop} {r:Result Next} (h:Goes P K r) (o:Oper) (a:Act) (next:Act->World->Prop) (Q:Exit->Act->World->Prop)
  (hn:∀ v w,K v w->next (a.put o.dst v) w):o.upon P a next Q r:=by
 cases r with
 | halt x w=>exact h.elim
 | ok n w=>
  cases n<;>first
   | exact hn _ _ h
   | exact h.elim
   | exact Calls.mono h (fun e w' ⟨v,he,hk⟩=>by subst he;exact hn _ _ hk)
theorem G6 (v:Value) (K:Value->Prop):P1 v K=K v:=by cases v<;>rfl
theorem U3 (f:Fr):∀ (l:List Operand) (K:List Value->Prop),A9K f l K=K (l.map (ev f))
 | [],_=>rfl
 | x::r,K=>by simp only [A9K,G6,U3 f r,List.map_cons]
theorem A0Y (f:Fr):∀ (l:List (Nat × Operand)) (K:List (Nat × Value)->Prop),B4H f l K=K (l.map fun p=>(p.1,ev f p.2))
 | [],_=>rfl
 | (i,x)::r,K=>by simp only [B4H,G6,A0Y f r,List.map_cons]
theorem intSame_eq {k k':IntKind} (h:G7 k k'=true):k=k':=by cases k<;>cases k'<;>first | rfl | cases h
theorem A1Z (v:Value) (K:List Value->Prop):A2u v K=K v.cells.toList:=by cases v<;>rfl
theorem A9P (a:Addr) (n:Nat) (K:Value->Prop):B6R a n K=K (.pointer (some (a.add n))):=by
 obtain⟨b,o,s⟩:=a;cases n with
 | zero=>simp [B6R,Addr.add]
 | succ n=>simp [B6R,Addr.add]
theorem P3 (s:ByteArray):s.toList=s.data.toList:=ByteArray.toList_eq s
theorem A74 (op:BinOp) (T:Nat) (k:IntKind) (a b:Int) (K:Value->Prop) (h:B6Q P op T k a b K):∃ v,(∀ w,(binOp op T (.int k a) (.int k b)).run P w=.ok v w)/\K v:=by
 cases op
 case quo=>exact⟨_,fun w=>by simp only [binOp_quo,Op.intDiv,y7 h.1];rfl,h.2⟩
 case rem=>exact⟨_,fun w=>by simp only [binOp_rem,Op.intDiv,y7 h.1];rfl,h.2⟩
 case shl=>exact h
 case shr=>exact h
 case andNot=>exact h
 case add=>exact⟨_,fun w=>by rw [binOp_add];rfl,h⟩
 case sub=>exact⟨_,fun w=>by rw [binOp_sub];rfl,h⟩
 case mul=>exact⟨_,fun w=>by rw [binOp_mul];rfl,h⟩
 case eql=>exact⟨_,fun w=>by rw [binOp_eql];rfl,h⟩
 case neq=>exact⟨_,fun w=>by rw [binOp_neq];rfl,h⟩
 case lss=>exact⟨_,fun w=>by rw [binOp_lss];rfl,h⟩
 case leq=>exact⟨_,fun w=>by rw [binOp_leq];rfl,h⟩
 case gtr=>exact⟨_,fun w=>by rw [binOp_gtr];rfl,h⟩
 case geq=>exact⟨_,fun w=>by rw [binOp_geq];rfl,h⟩
 case and=>exact⟨_,fun w=>by rw [binOp_and,intBits_and];rfl,h⟩
 case or=>exact⟨_,fun w=>by rw [binOp_or,intBits_or];rfl,h⟩
 case xor=>exact⟨_,fun w=>by rw [binOp_xor,intBits_xor];rfl,h⟩
theorem N0 (op:BinOp) (T:Nat) (a b:ByteArray):binOp op T (.string a) (.string b)=Op.stringOp op a b:=by cases op<;>rfl
theorem A75 (op:BinOp) (T:Nat) (a b:ByteArray) (K:Value->Prop) (h:vStr P op T a b K):∃ v,(∀ w,(binOp op T (.string a) (.string b)).run P w=.ok v w)/\K v:=by
 cases op
 case add=>exact⟨_,fun w=>by rw [N0];simp only [Op.stringOp];rw [y7 (by have:=h.1;simp only [IntKind.max_i64];omega)];rfl,h.2⟩
 case eql=>exact⟨_,fun w=>by rw [N0];simp only [Op.stringOp,P3];rfl,h⟩
 case neq=>exact⟨_,fun w=>by rw [N0];simp only [Op.stringOp,P3];rfl,h⟩
 case lss=>exact⟨_,fun w=>by rw [N0];simp only [Op.stringOp,P3];rfl,h⟩
 case leq=>exact⟨_,fun w=>by rw [N0];simp only [Op.stringOp,P3];rfl,h⟩
 case gtr=>exact⟨_,fun w=>by rw [N0];simp only [Op.stringOp,P3];rfl,h⟩
 case geq=>exact⟨_,fun w=>by rw [N0];simp only [Op.stringOp,P3];rfl,h⟩
 all_goals exact h
theorem A4c (op:BinOp) (T:Nat) (k yk:IntKind) (a b:Int) (K:Value->Prop) (h:A4W P op T k yk a b K):∃ v,(∀ w,(binOp op T (.int k a) (.int yk b)).run P w=.ok v w)/\K v:=by
 cases op
 case shl=>exact⟨_,fun w=>by simp only [binOp_shl,shift_shl k yk a b h.1.1 h.1.2];rfl,h.2⟩
 case shr=>exact⟨_,fun w=>by simp only [binOp_shr,shift_shr k yk a b h.1.1 h.1.2];rfl,h.2⟩
 all_goals exact h
theorem A76 (B:Bool) (op:BinOp) (T:Nat) (ox oy:Operand) (x y:Value) (K:Value->Prop) (hT:B=true->P.underlying T=some .bool) (h:B7n P B op T ox oy x y K):
  ∃ v,(∀ w,(do eqGuard op T ox oy x y;binOp op T x y:Sem Value).run P w=.ok v w)/\K v:=by
 unfold B7n at h;split at h
 ·rename_i k a k' b;have hg:∀ w,(eqGuard op T ox oy (.int k a) (.int k' b)).run P w=.ok () w:=fun w=>by rw [eqGuard_at_int];rfl
  cases hs:Y5 op
  ·rw [hs] at h;simp only [cond_false] at h;cases hk:G7 k k'
   ·rw [hk] at h;exact h.elim
   ·rw [hk] at h;have:=intSame_eq hk;subst this;obtain⟨v,h1,h2⟩:=A74 op T k a b K h;exact⟨v,fun w=>by rw [Sem.run_bind,hg,Result.andThen_ok,h1],h2⟩
  ·rw [hs] at h;obtain⟨v,h1,h2⟩:=A4c op T k k' a b K h;exact⟨v,fun w=>by rw [Sem.run_bind,hg,Result.andThen_ok,h1],h2⟩
 ·rename_i a b;obtain⟨v,h1,h2⟩:=A75 op T a b K h;exact⟨v,fun w=>by rw [eqGuard_at_string,Sem.run_bind,Sem.run_pure,Result.andThen_ok,h1],h2⟩
 ·rename_i a b;cases B
  ·exact h.elim
  ·have ht:=hT rfl;simp only [cond_true] at h;split at h
   ·exact⟨_,fun w=>by rw [eqGuard_at_bool,Sem.run_bind,Sem.run_pure,Result.andThen_ok,run_eql_bool w T a b ht],h⟩
   ·exact⟨_,fun w=>by rw [eqGuard_at_bool,Sem.run_bind,Sem.run_pure,Result.andThen_ok,run_neq_bool w T a b ht],h⟩
   ·exact h.elim
 ·exact h
theorem A9Q (op:UnOp) (x:Value) (K:Value->Prop) (h:vUn P op x K):∃ v,(∀ w,(Op.unary op x).run P w=.ok v w)/\K v:=by
 unfold vUn at h;split at h
 ·exact⟨_,fun w=>rfl,h⟩
 ·exact⟨_,fun w=>by simp [Op.unary,Op.intArith],h⟩
 ·exact h
theorem G9 {w:World} {a:Addr}:∀ (cs:List Value) (i:Nat),cellsAt w a cs i->∀ j v,cs[j]?=some v->w.cell? (a.add (i+j))=some v
 | [],_,_,j,v,h=>by simp at h
 | c::r,i,⟨h1,h2⟩,j,v,h=>by
  cases j with
  | zero=>simp at h;subst h;simpa using h1
  | succ j=>
   have:=G9 r (i+1) h2 j v (by simpa using h);rwa [show i+1+j=i+(j+1) from by omega] at this
theorem J3 {t n:Nat} {d:TypeDesc} (hu:P.underlying t=some d) (hd:U2 d=true) (hs:szN P t n) {w:World} {a:Addr} {cs:List Value} (hl:cs.length=n) (h:cellsAt w a cs 0):
  (loadVar t a).run P w=.ok (.agg cs.toArray) w:=by
 simp only [loadVar,Sem.run_bind,A3Q hu,Result.andThen_ok,hd,if_true,C4I hs];subst hl;have:=run_loadCells_list (P:=P) w a cs (fun j v hj=>by have:=G9 cs 0 h j v hj;simpa using this);simp [this]
theorem C1 {t:Nat} {d:TypeDesc} (hu:P.underlying t=some d) (hd:U2 d=false) {w:World} {a:Addr} {v:Value} (h:w.cell? a=some v):
  (loadVar t a).run P w=.ok v w:=by
 simp only [loadVar,Sem.run_bind,A3Q hu,Result.andThen_ok,hd];simp [h]
theorem frozen?_setCell (w:World) (a b:Addr) (v:Value):(w.setCell a v).frozen? b=w.frozen? b:=by
 simp only [World.frozen?,World.setCell,Array.getElem?_modify];by_cases h:a.block=b.block
 ·rw [y6 h];cases hb:w.heap[b.block]? with
  | none=>rfl
  | some o=>cases o<;>rfl
 ·rw [y7 h]
theorem A0v {a p:Addr} {u:Value}:∀ (cs:List Value) (w:World) (i:Nat),C7 w a cs i->C7 (w.setCell p u) a cs i
 | [],_,_,_=>trivial
 | v::r,w,i,⟨⟨x,h1⟩,h2,h3,h4⟩=>by
  refine⟨?_,by rw [frozen?_setCell];exact h2,h3,A0v r w (i+1) h4⟩;by_cases e:p=a.add i
  ·subst e;exact⟨u,World.cell?_setCell_same w _ _ h1⟩
  ·exact⟨x,by rw [World.cell?_setCell_other w p _ u e];exact h1⟩
theorem J9 {a:Addr}:∀ (cs:List Value) (w:World) (i:Nat),C7 w a cs i->(storeCells a cs i).run P w=.ok () (stored w a cs i)
 | [],w,i,_=>rfl
 | v::r,w,i,⟨⟨x,h1⟩,h2,h3,h4⟩=>by
  have hs:(store (a.add i) v).run P w=.ok () (w.setCell (a.add i) v):=by rw [run_store P w _ v _ h3,h1];simp [h2]
  show (store (a.add i) v >>= fun _=>storeCells a r (i+1)).run P w=_;rw [Sem.run_bind,hs];exact J9 r _ _ (A0v r w (i+1) h4)
theorem A6q {F:Array Field} {fs:List (Nat × Nat × Bool)} (h:B7o P F fs) {i off size:Nat} {g:Bool} (hi:fs[i]?=some (off,size,g)):
  ∃ fl,F[i]?=some fl/\fl.offset=off/\szN P fl.type size/\∃ d,P.underlying fl.type=some d/\U2 d=g:=by
 have h1:=y5 (fun l=>l[i]?) h;simp only [List.getElem?_map,hi,Option.map_some] at h1;cases hf:F.toList[i]? with
 | none=>rw [hf] at h1;cases h1
 | some fl=>
  rw [hf] at h1;simp only [Option.map_some,Option.some.injEq,Prod.mk.injEq] at h1;obtain⟨e1,e2,e3⟩:=h1;refine⟨fl,by simpa using hf,e1,e2,?_⟩;cases hu:P.underlying fl.type with
  | none=>rw [hu] at e3;cases e3
  | some d=>rw [hu] at e3;exact⟨d,rfl,by simpa using e3⟩
theorem Runs.goes {s:Sem Value} {w:World} {K:Value->World->Prop} (h:Runs P s w K):Goes P K ((do pure (.value (<-s)):Sem Next).run P w):=by obtain⟨v,w',h1,h2⟩:=h;simp only [Sem.run_bind,h1,Result.andThen_ok,Sem.run_pure];exact h2
theorem Q7 {s:Sem Value} {w w':World} {v:Value} {K:Value->World->Prop} (h:s.run P w=.ok v w') (k:K v w'):Goes P K ((do pure (.value (<-s)):Sem Next).run P w):=
 Runs.goes ⟨v,w',h,k⟩
theorem A6r (off:Nat):∀ (l:List Value) (k:Nat) (cs:Array Value),
  (l.zipIdx k).foldl (fun (cs:Array Value) (x:Value × Nat)=>cs.setIfInBounds (off+x.2) x.1) cs=(C0 cs.toList (off+k) l).toArray
 | [],k,cs=>by simp [C0]
 | v::r,k,cs=>by simp only [List.zipIdx_cons,List.foldl_cons,C0];rw [A6r off r (k+1)];simp [Nat.add_assoc]
theorem A6s (off:Nat) (v:Value) (cs:Array Value):
  v.cells.zipIdx.foldl (fun cs (c,j)=>cs.setIfInBounds (off+j) c) cs=(C0 cs.toList off v.cells.toList).toArray:=by
 have h:=A6r off v.cells.toList 0 cs;rw [Nat.add_zero] at h;rw [<-h,<-Array.foldl_toList];congr 1;simp
theorem B4I (places:Array (Nat × Nat)) (fs:List (Nat × Nat × Bool)) (hp:∀ i:Nat,places[i]?=(fs[i]?).map fun (x:Nat × Nat × Bool)=>(x.1,x.2.1)):
  ∀ (l:List (Nat × Value)) (cs r:List Value),A4X fs cs l=some r->Instr.fill (places[·]?) cs.toArray l=some r.toArray
 | [],cs,r,h=>by simp [A4X] at h;subst h;rfl
 | (i,v)::l,cs,r,h=>by
  simp only [A4X] at h;cases hi:fs[i]? with
  | none=>rw [hi] at h;cases h
  | some x=>
   obtain⟨off,size,g⟩:=x;rw [hi] at h;simp only at h;cases hb:(Nat.beq v.cells.size size&&Nat.ble (off+size) cs.length) with
   | false=>rw [hb] at h;cases h
   | true=>
    rw [hb] at h;simp only [z7] at hb;have e1:=z8 hb.1;have e2:=ze hb.2;have hpi:places[i]?=some (off,size):=by rw [hp,hi];rfl
    simp only [Instr.fill,hpi];rw [y7 (by simp;omega),A6s];exact B4I places fs hp l _ r h
theorem A9R (esz:Nat):∀ (l:List (Nat × Value)) (cs r:List Value),X2 esz cs l=some r->Instr.fill (fun i=>some (i*esz,esz)) cs.toArray l=some r.toArray
 | [],cs,r,h=>by simp [X2] at h;subst h;rfl
 | (i,v)::l,cs,r,h=>by
  simp only [X2] at h;cases hb:(Nat.beq v.cells.size esz&&Nat.ble (i*esz+esz) cs.length) with
  | false=>rw [hb] at h;cases h
  | true=>
   rw [hb] at h;simp only [z7] at hb;have e1:=z8 hb.1;have e2:=ze hb.2;simp only [Instr.fill];rw [y7 (by simp;omega),A6s];exact A9R esz l _ r h
theorem A1a (z:List Value):∀ n,(P2 z n).length=n*z.length
 | 0=>by simp [P2]
 | n+1=>by simp [P2,A1a z n,Nat.succ_mul];omega
theorem A4d (z:List Value) (hz:0<z.length):∀ (n i:Nat),i<n*z.length->(P2 z n)[i]?=z[i % z.length]?
 | 0,i,h=>by simp at h
 | n+1,i,h=>by
  simp only [P2];rcases zl i z.length with hi | hi
  ·rw [List.getElem?_append_left hi,Nat.mod_eq_of_lt hi]
  ·rw [List.getElem?_append_right hi,A4d z hz n (i-z.length) (by rw [Nat.succ_mul] at h;omega),Nat.mod_eq_sub_mod hi]
theorem A4e:∀ (v a b c:List Value),v.length=b.length->C0 (a++(b++c)) a.length v=a++(v++c)
 | [],a,b,c,h=>by
  have:b=[]:=zn h.symm;subst this;rfl
 | x::v,a,b,c,h=>by
  cases b with
  | nil=>cases h
  | cons y b=>
   have e:(a++(y::b++c)).set a.length x=(a++[x])++(b++c):=by rw [List.set_append_right _ _ (zc _),Nat.sub_self];simp
   have ih:=A4e v (a++[x]) b c (by simpa using h);rw [z6,List.length_singleton] at ih;rw [C0,e,ih];simp
theorem A9S {esz:Nat} {z:List Value} (hz:z.length=esz):∀ (l:List (Nat × Value)) (i:Nat) (cs done:List Value),done.length=i*esz->A4Y esz i l=some cs->X2 esz (done++P2 z l.length) l=some (done++cs)
 | [],i,cs,done,hd,h=>by
  simp only [A4Y] at h;cases h;simp [P2,X2]
 | (j,v)::r,i,cs,done,hd,h=>by
  simp only [A4Y] at h;cases hb:(Nat.beq j i&&Nat.beq v.cells.size esz) with
  | false=>rw [hb] at h;cases h
  | true=>
   rw [hb] at h;simp only [z7] at hb;have e1:=z8 hb.1;have e2:=z8 hb.2;subst e1;cases ht:A4Y esz (j+1) r with
   | none=>rw [ht] at h;cases h
   | some t=>
    rw [ht] at h;cases h;have e3:v.cells.toList.length=z.length:=by rw [Array.length_toList,e2,hz]
    have ih:=A9S hz r (j+1) t (done++v.cells.toList) (by rw [z6,hd,e3,hz,Nat.succ_mul]) ht;have e4:(Nat.beq v.cells.size esz&&Nat.ble (j*esz+esz) (done++P2 z ((j,v)::r).length).length)=true:=by rw [z7];refine⟨hb.2,Nat.ble_eq_true_of_le ?_⟩;rw [z6,hd,A1a,zi,Nat.succ_mul,hz];omega
    rw [X2,e4,zi,P2,<-hd,A4e _ _ _ _ e3,<-zv];rw [zv done] at ih;simpa [zv] using ih
theorem A9T {esz n:Nat} {z:List Value} (hz:z.length=esz) {l:List (Nat × Value)} {cs:List Value} (h:A4Z esz n z l=some cs):X2 esz (P2 z n) l=some cs:=by
 unfold A4Z at h;cases hb:Nat.beq l.length n with
 | false=>rw [hb] at h;exact h
 | true=>
  rw [hb] at h;simp only [cond_true] at h;have e:=z8 hb;cases hf:A4Y esz 0 l with
  | none=>rw [hf] at h;exact h
  | some t=>
   rw [hf] at h;cases h;have:=A9S hz l 0 cs [] (by simp) hf;rw [<-e];simpa using this
theorem B2E (z:List Value) (hz:0<z.length) (n:Nat):((Array.range (n*z.length)).map (fun i=>z.toArray[i % z.toArray.size]!))=(P2 z n).toArray:=by
 apply Array.ext
 ·simp [A1a]
 ·intro i h1 h2;have h3:i<n*z.length:=by simpa using h1
  have h4:i % z.length<z.length:=Nat.mod_lt _ hz;have:=A4d z hz n i h3;rw [List.getElem?_eq_getElem (by simpa using h2),List.getElem?_eq_getElem h4] at this;simp only [Array.getElem_map,Array.getElem_range,List.getElem_toArray];rw [getElem!_pos _ _ (by simpa using h4)];simpa using this.symm
theorem A53 {t:Nat} {d:TD} (h:B4m P t d) (hd:d≠.none):∃ v,szV P t d.size v/\v.cells=d.zero.toArray/\d.zero.length=d.size:=by
 cases d with
 | none=>exact absurd rfl hd
 | int k=>exact⟨_,h.2,rfl,rfl⟩
 | str=>exact⟨_,h.2,rfl,rfl⟩
 | bool=>exact⟨_,h.2,rfl,rfl⟩
 | slice e esz=>exact⟨_,h.2.1,rfl,rfl⟩
 | array n e esz z=>exact⟨_,h.2.1,rfl,rfl⟩
 | struct fs z=>exact⟨_,h.2,rfl,rfl⟩
 | one z=>exact⟨_,h.2.1,h.2.2,rfl⟩
theorem U4 (k:IntKind) (n:Int) (y:Nat) (code:BoundsCode) (w:World) (h0:0<=n) (h1:n<=y):(Instr.sliceBound (.int k n) y code).run P w=.ok n.toNat w:=by simp only [Instr.sliceBound,asIntOf,Sem.run_bind,Sem.run_pure,Result.andThen_ok];rw [y6 ⟨h0,h1⟩];rfl
theorem P4 {f:Fr} {d:Nat} {x:Operand} {n:Int} (h:E6 f d (some x)=some n):∃ k,ev f x=.int k n:=by
 simp only [E6] at h;split at h
 ·rename_i k m he;simp at h;subst h;exact⟨k,he⟩
 ·cases h
theorem A0Z (isS:Bool) (f:Fr) (len cap:Nat) (lo hi:Option Operand) (l h:Int) (w:World) (hl:E6 f 0 lo=some l) (hh:E6 f len hi=some h) (h0:0<=l) (h1:l<=h) (h2:h<=cap):
  (Instr.sliceBounds isS len cap (lo.map (ev f)) (hi.map (ev f)) none).run P w=.ok (l.toNat,h.toNat,cap) w:=by
 have hhi:∀ c:BoundsCode,((match hi.map (ev f) with | some v=>Instr.sliceBound v cap c | none=>pure len:Sem Nat)).run P w=.ok h.toNat w:=by
  intro c;cases hi with
  | none=>simp only [E6,Option.some.injEq] at hh;subst hh;simp
  | some x=>obtain⟨k,e⟩:=P4 hh;simp only [Option.map_some,e];exact U4 k h cap c w (by omega) h2
 have hlo:((match lo.map (ev f) with | some v=>Instr.sliceBound v h.toNat .sliceB | none=>pure 0:Sem Nat)).run P w=.ok l.toNat w:=by
  cases lo with
  | none=>simp only [E6,Option.some.injEq] at hl;subst hl;simp
  | some x=>obtain⟨k,e⟩:=P4 hl;simp only [Option.map_some,e];exact U4 k l h.toNat .sliceB w h0 (by omega)
 have hhi':=hhi (if isS then .sliceAcap else .sliceAlen);simp only [Instr.sliceBounds,Sem.run_bind,Sem.run_pure,Result.andThen_ok];cases hi with
 | none=>
  simp only [Option.map_none] at hhi' ⊢;simp only [Sem.run_pure,Result.ok.injEq] at hhi';rw [<-hhi'.1] at hlo;cases lo with
  | none=>simp only [Option.map_none,Sem.run_pure,Result.ok.injEq] at hlo ⊢;simp [hlo.1,hhi'.1]
  | some x=>simp only [Option.map_some,Option.isSome_none,Bool.false_eq_true,if_false,Sem.run_bind,Sem.run_pure,Result.andThen_ok] at hlo ⊢;rw [hlo];simp [hhi'.1]
 | some y=>
  simp only [Option.map_some] at hhi' ⊢;cases lo with
  | none=>simp only [Option.map_none,Sem.run_pure,Result.ok.injEq] at hlo;simp [hhi',hlo.1]
  | some x=>simp only [Option.map_some,Option.isSome_none,Bool.false_eq_true,if_false,Sem.run_bind] at hlo ⊢;rw [hhi'];simp only [Result.andThen_ok];rw [hlo];simp
theorem A54 (isS:Bool) (f:Fr) (len cap:Nat) (lo hi mx:Operand) (l h m:Int) (w:World) (hl:E6 f 0 (some lo)=some l) (hh:E6 f len (some hi)=some h) (hm:E6 f cap (some mx)=some m)
  (h0:0<=l) (h1:l<=h) (h2:h<=m) (h3:m<=cap):(Instr.sliceBounds isS len cap (some (ev f lo)) (some (ev f hi)) (some (ev f mx))).run P w=.ok (l.toNat,h.toNat,m.toNat) w:=by
 obtain⟨k1,e1⟩:=P4 hl;obtain⟨k2,e2⟩:=P4 hh;obtain⟨k3,e3⟩:=P4 hm;have r3:=U4 (P:=P) k3 m cap (if isS then .slice3Acap else .slice3Alen) w (by omega) h3;have r2:=U4 (P:=P) k2 h m.toNat .slice3B w (by omega) (by omega);have r1:=U4 (P:=P) k1 l h.toNat .slice3C w h0 (by omega);rw [e1,e2,e3];simp only [Instr.sliceBounds,Sem.run_bind,r3,Result.andThen_ok,r2,Option.isSome_some,if_true,r1,Sem.run_pure]
theorem A0w (hL:L.Ok P) (b:Builtin) (ats:Array Nat) (T:Nat) (cs:Array Bool) (xs:List Value) (K:Value->Prop) (h:A0u P L b ats T cs xs K):
  ∃ v,(∀ w,(builtin b ats T cs xs.toArray).run P w=.ok (.value v) w)/\K v:=by
 unfold A0u at h;split at h
 ·rename_i t x ha;have hats:ats=#[t]:=by apply Array.toList_inj.1;simpa using ha
  subst hats;have ht:=hL.ty t;have main:∀ v,(∀ w,(Builtin.len_ #[t] T #[x]).run P w=.ok v w)->K v->∃ v,(∀ w,(builtin .len #[t] T cs [x].toArray).run P w=.ok (.value v) w)/\K v:=by intro v h1 h2;refine⟨v,fun w=>?_,h2⟩;show ((do pure (.value (<-Builtin.len_ #[t] T #[x])):Sem Next)).run P w=_;simp only [Sem.run_bind,h1,Result.andThen_ok,Sem.run_pure]
  generalize L.ty t=d at h ht;cases d<;>cases x<;>first
   | exact (h:False).elim
   | (obtain⟨v,h1,h2⟩:=h;exact main v h1 h2)
   | exact main _ (fun w=>by simp [Builtin.len_,run_underlying ht.1,goInt]) h
 ·rename_i k x k' y;exact⟨_,fun w=>by show ((do pure (.value (<-Builtin.min_ _ T #[.int k x,.int k' y])):Sem Next)).run P w=_;simp only [Sem.run_bind,run_min_int2,Result.andThen_ok,Sem.run_pure],h⟩
 ·rename_i k x k' y;exact⟨_,fun w=>by show ((do pure (.value (<-Builtin.max_ _ T #[.int k x,.int k' y])):Sem Next)).run P w=_;simp only [Sem.run_bind,run_max_int2,Result.andThen_ok,Sem.run_pure],h⟩
 ·exact⟨_,fun w=>rfl,h⟩
 ·exact⟨_,fun w=>rfl,h⟩
 ·exact⟨_,fun w=>rfl,h⟩
 ·exact h
theorem Q8 {a:Option Addr} {cap esz:Nat} {l h m:Option Int} {K:Value->Prop} (hv:G8 a cap esz l h m K):
  ∃ i j:Int,l=some i/\h=some j/\∃ k,m=some k/\0<=i/\i<=j/\j<=k/\k<=cap/\K (.slice (if k=i then a else a.map (·.add (i.toNat*esz))) (j-i).toNat (k-i).toNat):=by
 unfold G8 at hv;split at hv
 ·exact⟨_,_,rfl,rfl,_,rfl,hv.1.1,hv.1.2.1,hv.1.2.2.1,hv.1.2.2.2,hv.2⟩
 ·exact hv.elim
theorem Z6:∀ (l:List Field) (fs:List (Nat × Nat × Bool)) (w:World),
  l.map (fun fl=>(fl.offset,(P.info? fl.type).map (fun i=>i.size),(P.underlying fl.type).map U2))=fs.map (fun x=>(x.1,some x.2.1,some x.2.2))->
  (l.mapM (fun fl=>do pure (fl.offset,<-sizeOf fl.type)):Sem (List (Nat × Nat))).run P w=.ok (fs.map fun (x:Nat × Nat × Bool)=>(x.1,x.2.1)) w
 | [],[],w,_=>rfl
 | [],_::_,w,h=>by simp at h
 | _::_,[],w,h=>by simp at h
 | fl::l,x::fs,w,h=>by simp only [List.map_cons,List.cons.injEq,Prod.mk.injEq] at h;obtain⟨⟨h1,h2,_⟩,h4⟩:=h;have hs:szN P fl.type x.2.1:=h2;simp only [List.mapM_cons,Sem.run_bind,C4I hs,Result.andThen_ok,Sem.run_pure,Z6 l fs w h4,List.map_cons,h1]
theorem A77 {F:Array Field} {fs:List (Nat × Nat × Bool)} (h:B7o P F fs) (w:World):
  (F.mapM (fun fl=>do pure (fl.offset,<-sizeOf fl.type)):Sem (Array (Nat × Nat))).run P w=.ok (fs.map fun (x:Nat × Nat × Bool)=>(x.1,x.2.1)).toArray w:=by
 have:=Z6 F.toList fs w h;rw [Array.mapM_eq_mapM_toList,Sem.run_map,this];rfl
theorem B6a (g:Operand->Value) (xs:Array Operand):xs.map g=(xs.toList.map g).toArray:=by apply Array.toList_inj.1;simp
theorem C9 {s:Sem Value} {v:Value} {K:Value->Prop} (h:∀ w,s.run P w=.ok v w) (k:K v):∃ v,(∀ w,((do pure (.value (<-s)):Sem Next)).run P w=.ok (.value v) w)/\K v:=
 ⟨v,fun w=>by simp only [Sem.run_bind,h,Result.andThen_ok,Sem.run_pure],k⟩
theorem A4f (hL:L.Ok P) (T:Nat) (op:Op) (f:Fr) (K:Value->Prop) (h:pOp P L T op f K)
  (dst:Option Nat) (pos:String) (after:Array Edge) (g:Option (Nat × Bool)):∃ v,(∀ w,(execOp (ev f) ⟨dst,op,T,pos,after,g⟩).run P w=.ok (.value v) w)/\K v:=by
 cases op<;>simp only [pOp,G6,U3,A0Y,A9P] at h<;>simp only [execOp]
 case move x=>exact⟨_,fun _=>rfl,h⟩
 case assign x=>exact⟨_,fun _=>rfl,h⟩
 case pick c x y=>
  split at h
  ·rename_i b hb;rw [hb];cases b
   ·exact⟨_,fun _=>rfl,h⟩
   ·exact⟨_,fun _=>rfl,h⟩
  ·exact h.elim
 case binOp op t x y yt=>
  obtain⟨v,h1,h2⟩:=A76 (P:=P) (L.ty t).isBool op t x y (ev f x) (ev f y) K (fun hb=>by have ht:=hL.ty t;cases hd:L.ty t<;>rw [hd] at hb ht<;>first | exact ht.1 | cases hb) h;exact C9 h1 h2
 case unOp op t x=>
  obtain⟨v,h1,h2⟩:=A9Q op (ev f x) K h;exact C9 h1 h2
 case fieldAddr t x i=>
  split at h
  ·rename_i fs z a e1 e2;have ht:=hL.ty t;rw [e1] at ht;obtain⟨⟨F,hu,hf⟩,_⟩:=ht;split at h
   ·rename_i off size g' hi;obtain⟨fl,h1,h2,h3,_⟩:=A6q hf hi;cases hz:Nat.beq size 0
    ·rw [hz] at h;have hne:size≠0:=fun e=>by subst e;cases hz
     refine C9 (fun w=>?_) h;simp [Instr.fieldAt,run_underlying hu,h1,e2,Instr.sureAddr,fieldPlace,C4I h3,hne,h2]
    ·rw [hz] at h;exact h.elim
   ·exact h.elim
  ·exact h.elim
 case field t x i=>
  split at h
  ·rename_i fs z cs e1 e2;have ht:=hL.ty t;rw [e1] at ht;obtain⟨⟨F,hu,hf⟩,_⟩:=ht;split at h
   ·rename_i off size g' hi;obtain⟨fl,h1,h2,h3,d,h4,h5⟩:=A6q hf hi;subst h2;cases g'
    ·simp only [cond_false] at h;split at h
     ·rename_i v hv;refine C9 (fun w=>?_) h;simp [Instr.field,run_underlying hu,h1,e2,asAgg,part,A3Q h4,h5,hv]
     ·exact h.elim
    ·refine C9 (fun w=>?_) h;simp [Instr.field,run_underlying hu,h1,e2,asAgg,part,A3Q h4,h5,C4I h3]
   ·exact h.elim
  ·exact h.elim
 case build t ps=>
  have ht:=hL.ty t;generalize hd:L.ty t=d at h ht;cases d with
  | struct fs z=>
   simp only at h;split at h
   ·rename_i cs hcs;obtain⟨⟨F,hu,hf⟩,hz⟩:=ht;refine C9 (fun w=>?_) h;have hpl:=A77 hf;simp only [Instr.build,Sem.run_bind,D9 hz,Result.andThen_ok,run_underlying hu,hpl];have:=B4I (fs.map fun (x:Nat × Nat × Bool)=>(x.1,x.2.1)).toArray fs (fun i=>by simp) _ _ _ hcs;simp only [Value.cells];rw [Array.toList_map];rw [this];rfl
   ·exact h.elim
  | array n e esz z=>
   simp only at h;split at h
   ·rename_i cs hcs;refine C9 (fun w=>?_) h;have:=A9R esz _ _ _ hcs;simp only [Instr.build,Sem.run_bind,D9 ht.2.1,Result.andThen_ok,run_underlying ht.1,C4I ht.2.2];simp only [Value.cells];rw [Array.toList_map];rw [this];rfl
   ·exact h.elim
  | _=>exact h.elim
 case index t x i=>
  have ht:=hL.ty t;generalize hd:L.ty t=d at h ht;generalize hx:ev f x=vx at h;generalize hi:ev f i=vi at h;split at h
  ·rename_i s k n;obtain⟨⟨h0,h1⟩,h2⟩:=h;refine C9 (fun w=>?_) h2;have hlt:n.toNat<s.size:=by omega
   have hg:s[n.toNat]?=some (s.data.toList.getD n.toNat 0):=by
    have h3:n.toNat<s.data.toList.length:=by rw [Array.length_toList];exact hlt
    rw [List.getD_eq_getElem?_getD,List.getElem?_eq_getElem h3];rw [getElem?_pos s n.toNat hlt];rfl
   simp [Instr.index,asIntOf,run_underlying ht.1,h0,hg]
  ·obtain⟨v,h1,h2⟩:=h;exact C9 h1 h2
 case indexAddr t x i=>
  have ht:=hL.ty t;generalize hd:L.ty t=d at h ht;generalize hx:ev f x=vx at h;generalize hi:ev f i=vi at h;split at h
  ·rename_i e esz a len cap k n;obtain⟨⟨h0,h1⟩,h2⟩:=h;refine C9 (fun w=>?_) h2;simp only [Instr.indexAt,asIntOf,Sem.run_bind,Sem.run_pure,Result.andThen_ok,run_underlying ht.1];rw [Sem.run_ite,y6 ⟨h0,h1⟩];simp only [Sem.run_bind,Sem.run_pure,Result.andThen_ok,C4I ht.2.2]
  ·rename_i len e esz z a k n;obtain⟨⟨h0,h1⟩,h2⟩:=h;refine C9 (fun w=>?_) h2;simp only [Instr.indexAt,Instr.sureAddr,asIntOf,Sem.run_bind,Sem.run_pure,Result.andThen_ok,run_underlying ht.1];rw [Sem.run_ite,y6 ⟨h0,h1⟩];simp only [Sem.run_bind,Sem.run_pure,Result.andThen_ok,C4I ht.2.2]
  ·exact h.elim
 case slice t x lo hi mx=>
  have ht:=hL.ty t;generalize hd:L.ty t=d at h ht;generalize hx:ev f x=vx at h;split at h
  ·rename_i s;cases mx with
   | some _=>exact h.elim
   | none=>
    simp only at h;unfold A3P at h;split at h
    ·rename_i l' h' i j e1 e2;obtain⟨⟨h0,h1,h2⟩,h3⟩:=h;refine C9 (fun w=>?_) h3;have hb:=A0Z (P:=P) false f s.size s.size lo hi i j w e1 e2 h0 h1 h2;simp only [Instr.sliceAt,Sem.run_bind,run_underlying ht.1,Result.andThen_ok,Instr.slice,Option.map_none,Option.isSome_none,Bool.false_eq_true,if_false,Sem.run_pure,hb]
    ·exact h.elim
  ·rename_i e esz a len cap;cases mx with
   | some mx=>
    cases lo with
    | none=>exact h.elim
    | some lo=>
     cases hi with
     | none=>exact h.elim
     | some hi=>
      simp only at h;obtain⟨i,j,e1,e2,k,e3,h0,h1,h2,h3,h4⟩:=Q8 h;refine C9 (fun w=>?_) h4;have hb:=A54 (P:=P) true f len cap lo hi mx i j k w e1 e2 e3 h0 h1 h2 h3;simp only [Instr.sliceAt,Sem.run_bind,run_underlying ht.1,Result.andThen_ok,Instr.slice,Option.map_some,hb,Sem.run_pure,C4I ht.2.2];congr 2
      ·by_cases e:k=i
       ·rw [y6 e,y6 (by omega)]
       ·rw [y7 e,y7 (by omega)]
      ·omega
      ·omega
   | none=>
    simp only at h;obtain⟨i,j,e1,e2,k,e3,h0,h1,h2,h3,h4⟩:=Q8 h;simp only [Option.some.injEq] at e3;subst e3;refine C9 (fun w=>?_) h4;have hb:=A0Z (P:=P) true f len cap lo hi i j w e1 e2 h0 h1 (by omega);simp only [Instr.sliceAt,Sem.run_bind,run_underlying ht.1,Result.andThen_ok,Instr.slice,Option.map_none,hb,Sem.run_pure,C4I ht.2.2];congr 2
    ·by_cases e:(cap:Int)=i
     ·rw [y6 e,y6 (by omega)]
     ·rw [y7 e,y7 (by omega)]
    ·omega
    ·omega
  ·rename_i n e esz z a;cases mx with
   | some _=>exact h.elim
   | none=>
    simp only at h;obtain⟨i,j,e1,e2,k,e3,h0,h1,h2,h3,h4⟩:=Q8 h;simp only [Option.some.injEq] at e3;subst e3;refine C9 (fun w=>?_) h4;have hb:=A0Z (P:=P) false f n n lo hi i j w e1 e2 h0 h1 (by omega);simp only [Instr.sliceAt,Instr.sureAddr,Sem.run_bind,run_underlying ht.1,Result.andThen_ok,Option.map_none,hb,Sem.run_pure,C4I ht.2.2];congr 2
    ·by_cases e:(n:Int)=i
     ·rw [y6 e,y6 (by omega)]
     ·rw [y7 e,y7 (by omega)];rfl
    ·omega
    ·omega
  ·exact h.elim
 case extract x i=>
  split at h
  ·rename_i vs e;split at h
   ·rename_i v hv;refine C9 (fun w=>?_) h;have:vs[i]?=some v:=by simpa using hv
    simp [Instr.extract,e,this]
   ·exact h.elim
  ·exact h.elim
 case makeFunc fn fs cs=>
  refine C9 (fun w=>?_) h;rw [B6a (ev f) fs,B6a (ev f) cs];rfl
 case nilCheck x=>
  split at h
  ·rename_i a e;rw [e];exact⟨_,fun _=>rfl,h⟩
  ·rename_i n fs cs e;rw [e];exact⟨_,fun _=>rfl,h⟩
  ·exact h.elim
 case makeInterface t x=>obtain⟨v,h1,h2⟩:=h;exact C9 h1 h2
 case convert s d x=>
  split at h
  ·rename_i k k' k2 n e1 e2 e3;have hs:=hL.ty s;have hd:=hL.ty d;rw [e1] at hs;rw [e2] at hd;exact C9 (fun w=>by simp [convert,run_underlying hs.1,run_underlying hd.1,e3,Conv.intToInt]) h
  ·rename_i s' e1 e2 e3;have hs:=hL.ty s;have hd:=hL.ty d;rw [e1] at hs;rw [e2] at hd;exact C9 (fun w=>by simp [convert,run_underlying hs.1,run_underlying hd.1,e3]) h
  ·obtain⟨v,h1,h2⟩:=h;exact C9 h1 h2
 case call c=>
  obtain⟨callee,args,ats⟩:=c;cases callee with
  | invoke r m=>exact h.elim
  | value fo=>exact h.elim
  | builtin b=>
   simp only at h;cases hp:L6 b
   ·rw [hp] at h;exact h.elim
   ·rw [hp] at h;obtain⟨v,h1,h2⟩:=A0w hL b ats T _ _ K h;refine⟨v,fun w=>?_,h2⟩;simp only [resolve,Sem.run_bind,Sem.run_pure,Result.andThen_ok,invoke];rw [B6a (ev f) args];exact h1 w
 all_goals exact h.elim
theorem Z7 (hL:L.Ok P) (T:Nat) (op:Op) (f:Fr) (w:World) (K:Value->World->Prop) (h:vOp P L T op f w K)
  (dst:Option Nat) (pos:String) (after:Array Edge) (g:Option (Nat × Bool)):Goes P K ((execOp (ev f) ⟨dst,op,T,pos,after,g⟩).run P w):=by
 have pure_:pOp P L T op f (fun v=>K v w)->Goes P K ((execOp (ev f) ⟨dst,op,T,pos,after,g⟩).run P w):=by intro hp;obtain⟨v,h1,h2⟩:=A4f hL T op f _ hp dst pos after g;rw [h1];exact h2
 cases op
 all_goals (try (exact pure_ h))
 all_goals simp only [vOp,U3,A0Y,A1Z] at h
 all_goals simp only [execOp]
 case load t x=>
  have ht:=hL.ty t;generalize hd:L.ty t=d at h ht;have key:∀ (a:Addr) (v:Value),ev f x=.pointer (some a)->(loadVar t a).run P w=.ok v w->K v w->Goes P K ((do pure (.value (<-Instr.loadAt t (ev f x))):Sem Next).run P w):=by intro a v e hr hk;refine Q7 ?_ hk;simp [Instr.loadAt,e,Instr.sureAddr,hr]
  generalize hx:ev f x=vx at h key;cases vx with
  | pointer p=>
   cases p with
   | none=>cases d<;>exact h.elim
   | some a=>
    cases d with
    | none=>exact h.elim
    | array n e esz z=>
     obtain⟨cs,h1,h2,h3⟩:=h;exact key a _ rfl (J3 ht.1 rfl (A1Y ht.2.1) h1 h2) h3
    | struct fs z=>
     obtain⟨cs,h1,h2,h3⟩:=h;obtain⟨⟨F,hu,_⟩,hz⟩:=ht;exact key a _ rfl (J3 hu rfl (A1Y hz) h1 h2) h3
    | int k=>obtain⟨v,h1,h2⟩:=h;exact key a _ rfl (C1 ht.1 rfl h1) h2
    | str=>obtain⟨v,h1,h2⟩:=h;exact key a _ rfl (C1 ht.1 rfl h1) h2
    | bool=>obtain⟨v,h1,h2⟩:=h;exact key a _ rfl (C1 ht.1 rfl h1) h2
    | slice e s=>obtain⟨v,h1,h2⟩:=h;exact key a _ rfl (C1 ht.1 rfl h1) h2
    | one z=>obtain⟨v,h1,h2⟩:=h;obtain⟨⟨u,hu,hg⟩,_⟩:=ht;exact key a _ rfl (C1 hu hg h1) h2
  | _=>cases d<;>exact h.elim
 case store t x y=>
  have ht:=hL.ty t;generalize hd:L.ty t=d at h ht;generalize hx:ev f x=vx at h;have main:∀ a,d≠.none->vx=.pointer (some a)->cond (Nat.beq (ev f y).cells.toList.length d.size) (C7 w a (ev f y).cells.toList 0/\∀ w',D0 w a (ev f y).cells.toList w'->K undef w') False->
    Goes P K ((do (Instr.storeAt t vx (ev f y));pure .skip:Sem Next).run P w):=by
   intro a hn e1 h;cases hb:Nat.beq (ev f y).cells.toList.length d.size
   ·rw [hb] at h;exact h.elim
   ·rw [hb] at h;obtain⟨h1,h2⟩:=h;have e:=z8 hb;obtain⟨v,hz,_⟩:=A53 ht hn;have h3:=h2 _ rfl;simp only [Instr.storeAt,e1,Instr.sureAddr,storeVar,Sem.run_bind,Sem.run_pure,Result.andThen_ok,C4I (A1Y hz)];rw [Sem.run_ite,y7 (by simpa using e)];simp only [Result.andThen_ok,J9 _ _ _ h1];exact h3
  cases vx with
  | pointer p=>
   cases p with
   | none=>cases d<;>exact h.elim
   | some a=>
    cases d<;>first
     | exact h.elim
     | exact main a (fun e=>by cases e) rfl h
  | _=>cases d<;>exact h.elim
 case alloc t=>
  have ht:=hL.ty t;generalize hd:L.ty t=d at h ht;have main:d≠.none->(∀ g w',New w d.zero t g w'->K (.pointer (some ⟨g,0,none⟩)) w')->Goes P K ((do pure (.value (<-Instr.alloc t true (.tuple #[]))):Sem Next).run P w):=by intro hn h;obtain⟨v,hz,hc,_⟩:=A53 ht hn;refine Q7 (w':=w.alloc (.cells d.zero.toArray t)) ?_ (h w.heap.size _ ⟨rfl,rfl⟩);simp [Instr.alloc,D9 hz,newVar,newRow,hc]
  cases d<;>first
   | exact h.elim
   | exact main (fun e=>by cases e) h
 case box t x=>
  refine Q7 (w':=w.alloc (.cells (ev f x).cells t)) ?_ (h w.heap.size _ ⟨rfl,by simp⟩);simp [Instr.box,newVar,newRow]
 case buildSlice t n ps=>
  have ht:=hL.ty t;generalize hd:L.ty t=d at h ht;cases d with
  | slice e esz=>
   simp only at h;cases hz:(Nat.beq n 0&&A1X ps.toList) with
   | true=>
    rw [hz] at h;simp only [cond_true] at h;simp only [z7] at hz;have c1:=z8 hz.1;have c2:ps=#[]:=by
     obtain⟨l⟩:=ps;cases l with
     | nil=>rfl
     | cons a r=>exact absurd hz.2 (by simp [A1X])
    subst c1;subst c2;refine Q7 (w':=w.alloc (.cells #[] e)) ?_ (h w.heap.size _ ⟨rfl,rfl⟩);simp [Instr.buildSlice,run_underlying ht.1,C4I ht.2.2,Instr.fill,newRow];rw [show Array.range 0=#[] from Array.eq_empty_of_size_eq_zero (by simp),Array.map_empty]
   | false=>
   rw [hz] at h;simp only [cond_false] at h;cases hb:(Nat.ble (n*esz) 16777216&&!Nat.beq esz 0&&!Nat.beq n 0) with
   | false=>rw [hb] at h;exact h.elim
   | true=>
    rw [hb] at h;simp only [cond_true] at h;simp only [z7,Bool.not_eq_true'] at hb;obtain⟨⟨b1,b2⟩,b3⟩:=hb;have c1:=ze b1;have c2:esz≠0:=fun e=>by subst e;cases b2
    have c3:n≠0:=fun e=>by subst e;cases b3
    have te:=hL.ty e;generalize hde:L.ty e=de at h te;have main:de≠.none->cond (Nat.beq de.size esz) (match A4Z esz n de.zero (ps.toList.map fun p=>(p.1,ev f p.2)) with
      | some cs=>∀ g w',New w cs e g w'->K (.slice (some ⟨g,0,none⟩) n n) w'
      | none=>False) False->Goes P K ((do pure (.value (<-Instr.buildSlice t n (ps.map fun (i,x)=>(i,ev f x)))):Sem Next).run P w):=by
     intro hn h;obtain⟨v,hz,hc,hlen⟩:=A53 te hn;cases hb2:Nat.beq de.size esz with
     | false=>rw [hb2] at h;exact h.elim
     | true=>
      rw [hb2] at h;have hs:=z8 hb2;simp only [cond_true] at h;split at h
      ·rename_i cs hcs;refine Q7 (w':=w.alloc (.cells cs.toArray e)) ?_ (h w.heap.size _ ⟨rfl,rfl⟩);have hfa:=A9R esz _ _ _ (A9T (hlen.trans hs) hcs);have hne:n*esz≠0:=Nat.mul_ne_zero c3 c2;simp only [Instr.buildSlice,Sem.run_bind,run_underlying ht.1,Result.andThen_ok,C4I ht.2.2];rw [y7 (by omega)];simp only [Sem.run_bind,Sem.run_pure,Result.andThen_ok,Sem.run_ite];rw [y7 hne];simp only [Result.andThen_ok,D9 hz,hc];have hzz:=B2E de.zero (by omega) n;rw [hlen,hs] at hzz;rw [hzz,Array.toList_map,hfa];simp [newRow]
      ·exact h.elim
    cases de<;>first
     | exact h.elim
     | exact main (fun e=>by cases e) h
  | _=>exact h.elim
 case convert s d x=>
  split at h
  ·rename_i k k' k2 n e1 e2 e3;have hs:=hL.ty s;have hd:=hL.ty d;rw [e1] at hs;rw [e2] at hd;exact Q7 (by simp [convert,run_underlying hs.1,run_underlying hd.1,e3,Conv.intToInt]) h
  ·rename_i s' e1 e2 e3;have hs:=hL.ty s;have hd:=hL.ty d;rw [e1] at hs;rw [e2] at hd;exact Q7 (by simp [convert,run_underlying hs.1,run_underlying hd.1,e3]) h
  ·exact Runs.goes h
 case makeMap t r=>exact Runs.goes h
 case makeSlice t l c=>exact Runs.goes h
 case lookup t x i ok=>exact Runs.goes h
 case range t x=>exact Runs.goes h
 case next it s=>exact Runs.goes h
 case entry it=>exact Runs.goes h
 case mapUpdate t m k x=>
  obtain⟨w',h1,h2⟩:=h;simp only [Sem.run_bind,h1,Result.andThen_ok,Sem.run_pure];exact h2
 case insert t m k x=>
  obtain⟨w',h1,h2⟩:=h;simp only [Sem.run_bind,h1,Result.andThen_ok,Sem.run_pure];exact h2
 case call c=>
  obtain⟨callee,args,ats⟩:=c;cases callee with
  | invoke r m=>exact h.elim
  | builtin b=>
   simp only at h;simp only [resolve,Sem.run_bind,Sem.run_pure,Result.andThen_ok,invoke];cases hp:L6 b
   ·rw [hp] at h;obtain⟨v,w',h1,h2⟩:=h;rw [B6a (ev f) args];exact Eq.mpr (y5 (Goes P K) h1) h2
   ·rw [hp] at h;simp only [cond_true] at h;obtain⟨v,h1,h2⟩:=A0w hL b ats T _ _ _ h;rw [B6a (ev f) args];exact Eq.mpr (y5 (Goes P K) (h1 w)) h2
  | value fo=>
   simp only at h;split at h
   ·rename_i n first captured e
    have main:X3 P L n (first.toList++args.toList.map (ev f)++captured.toList) w K:=by
     split at h
     ·rename_i e1 e2;rw [e1,e2];simpa using h
     ·exact h
    unfold X3 at main;cases hf:L.fns n with
    | false=>
     rw [hf] at main;simp only [resolve,Sem.run_bind,Sem.run_pure,Result.andThen_ok,e,Deferred.ofValue,invoke];have e2:first++args.map (ev f)++captured=(first.toList++args.toList.map (ev f)++captured.toList).toArray:=by apply Array.toList_inj.1;simp
     rw [e2];obtain⟨v,w',h1,h2⟩:=main.runs;exact Eq.mpr (y5 (Goes P K) h1) h2
    | true=>
     rw [hf] at main;have hc:∀ (args:Array Value) (w:World),(callFunc n args).run P w=.ok (.enter n args) w:=hL.fns n hf;simp only [resolve,Sem.run_bind,Sem.run_pure,Result.andThen_ok,e,Deferred.ofValue,invoke];have e2:first++args.map (ev f)++captured=(first.toList++args.toList.map (ev f)++captured.toList).toArray:=by apply Array.toList_inj.1;simp
     rw [e2,hc];exact main.calls
   ·exact h.elim
theorem Agree.eval {n:Nat} {a:Act} {f:Fr} (h:Agree n a f):a.eval=ev f:=by
 funext x;cases x with
 | tmp t=>exact h.2.2 t
 | _=>rfl
theorem Agree.put {n:Nat} {a:Act} {f:Fr} (h:Agree n a f) {t:Nat} (ht:t<n) (v:Value):Agree n (a.put (some t) v) (upd f t v):=by
 refine⟨h.1,by simp [Act.put,h.2.1],fun s=>?_⟩;unfold upd;cases hb:Nat.beq s t with
 | true=>
  have:=z8 hb;subst this;simp [Act.put,Array.getD_eq_getD_getElem?,h.2.1,ht]
 | false=>
  have hne:t≠s:=fun e=>by subst e;simp at hb
  rw [cond_false,<-h.2.2 s];simp [Act.put,Array.getD_eq_getD_getElem?,Array.getElem?_setIfInBounds_ne hne]
theorem A6t {f:Fr} {t:Nat} {v:Value} (h:f t=v):upd f t v=f:=by
 funext s;unfold upd;cases hb:Nat.beq s t with
 | true=>have:=z8 hb;subst this;exact h.symm
 | false=>rfl
theorem Agree.putO {n:Nat} {a:Act} {f:Fr} (h:Agree n a f) {d:Option Nat} (hd:(match d with | some t=>Nat.blt t n | none=>true)=true) (v:Value):Agree n (a.put d v) (B6P f d v):=by
 cases d with
 | none=>exact h
 | some t=>exact h.put (ze hd) v
theorem H4 (f:Fr) (d:Option Nat) (v:Value) (K:Fr->Prop):N6 f d v K=K (B6P f d v):=by cases d<;>rfl
theorem A78 {n:Nat} {a:Act} {f:Fr} (hA:Agree n a f) {ops0:List Oper} {j t:Nat} {b:Bool} (hg:G3 ops0 f j=some (t,b)) {dst:Option Nat} {op:Op} {T:Nat} {pos:String} {after:Array Edge} {want:Bool}:
  upd f t (.bool b)=f/\Region.wanted ⟨dst,op,T,pos,after,some (j,want)⟩ (yielded ops0.toArray a.tmps)=(b==want):=by
 have hft:f t=.bool b/\(ops0[j]?).bind (·.dst)=some t:=by
  unfold G3 at hg;cases ho:ops0[j]? with
  | none=>rw [ho] at hg;cases hg
  | some o=>
   rw [ho] at hg;simp only at hg;cases hdo:o.dst with
   | none=>rw [hdo] at hg;cases hg
   | some s=>
    rw [hdo] at hg;simp only at hg;cases hfs:f s<;>rw [hfs] at hg<;>first
     | (cases hg;exact⟨hfs,by simp [hdo]⟩)
     | (simp at hg)
 refine⟨A6t hft.1,?_⟩;have htn:a.tmps[t]?=some (.bool b):=by
  have h1:=hA.2.2 t;rw [hft.1] at h1;rw [Array.getD_eq_getD_getElem?] at h1;cases hx:a.tmps[t]? with
  | none=>rw [hx] at h1;cases h1
  | some x=>rw [hx] at h1;exact y5 some h1
 simp only [Region.wanted,yielded,List.getElem?_toArray,hft.2,Option.bind_some,htn];cases b<;>cases want<;>rfl
theorem A2v {n:Nat} {a:Act} {f:Fr} (hA:Agree n a f) {ops0:List Oper} {j:Nat} (hg:G3 ops0 f j=none) {dst:Option Nat} {op:Op} {T:Nat} {pos:String} {after:Array Edge} {want:Bool}:
  Region.wanted ⟨dst,op,T,pos,after,some (j,want)⟩ (yielded ops0.toArray a.tmps)=false:=by
 have h:yielded ops0.toArray a.tmps j=none:=by
  unfold G3 at hg;simp only [yielded,List.getElem?_toArray];cases ho:ops0[j]? with
  | none=>rfl
  | some o=>
   rw [ho] at hg;simp only at hg;cases hdo:o.dst with
   | none=>simp [hdo]
   | some s=>
    rw [hdo] at hg;simp only at hg;simp only [Option.bind_some,hdo];have h1:=hA.2.2 s;rw [Array.getD_eq_getD_getElem?] at h1;cases hx:a.tmps[s]? with
    | none=>rfl
    | some x=>
     rw [hx] at h1;simp only [Option.getD_some] at h1;rw [<-h1] at hg;cases x<;>first | rfl | (simp at hg)
 simp only [Region.wanted,h];cases want<;>rfl
theorem P5 (hL:L.Ok P) (n:Nat) (ops0:List Oper) (K:Fr->World->Prop) (Q:Exit->Act->World->Prop) (hQ:∀ a f w,Agree n a f->K f w->Q .normal a w):
  ∀ (l:List Oper) (a:Act) (f:Fr) (w:World),Agree n a f->Y1 n l=true->A4a P L ops0 l f w K->wpList P ops0.toArray Q l a w
 | [],a,f,w,hA,_,h=>hQ a f w hA h
 | ⟨dst,op,T,pos,after,none⟩::r,a,f,w,hA,hd,h=>by
  simp only [Y1,z7] at hd;have h':vOp P L T op f w fun v w'=>N6 f dst v fun f'=>A4a P L ops0 r f' w' K:=h;have hg:=Z7 hL T op f w _ h' dst pos after none;refine wpList_plain rfl fun Kn hKn=>?_;unfold Oper.wp;rw [hA.eval];refine hg.upon _ _ _ _ fun v w' hk=>hKn _ _ ?_;rw [H4] at hk;exact P5 hL n ops0 K Q hQ r _ _ _ (hA.putO hd.1 v) hd.2 hk
 | ⟨dst,op,T,pos,after,some (j,want)⟩::r,a,f,w,hA,hd,h=>by
  simp only [Y1,z7] at hd;have h':(match G3 ops0 f j with
    | some (t,b)=>Bool.rec (motive:=fun _=>Prop)
      (cond want (N6 (upd f t (.bool false)) dst undef fun f'=>A4a P L ops0 r f' w K)
       (vOp P L T op (upd f t (.bool false)) w fun v w'=>N6 (upd f t (.bool false)) dst v fun f'=>A4a P L ops0 r f' w' K))
      (cond want (vOp P L T op (upd f t (.bool true)) w fun v w'=>N6 (upd f t (.bool true)) dst v fun f'=>A4a P L ops0 r f' w' K)
       (N6 (upd f t (.bool true)) dst undef fun f'=>A4a P L ops0 r f' w K)) b
    | none=>N6 f dst undef fun f'=>A4a P L ops0 r f' w K):=h
  cases hg:G3 ops0 f j with
  | none=>
   rw [hg] at h';simp only [H4] at h';refine wpList_step fun Kn hKn=>?_;rw [y7 (by rw [A2v hA hg];simp)];exact hKn _ _ (P5 hL n ops0 K Q hQ r _ _ _ (hA.putO hd.1 undef) hd.2 h')
  | some tb=>
   obtain⟨t,b⟩:=tb;rw [hg] at h';simp only at h';have hft:f t=.bool b/\(ops0[j]?).bind (·.dst)=some t:=by
    unfold G3 at hg;cases ho:ops0[j]? with
    | none=>rw [ho] at hg;cases hg
    | some o=>
     rw [ho] at hg;simp only at hg;cases hdo:o.dst with
     | none=>rw [hdo] at hg;cases hg
     | some s=>
      rw [hdo] at hg;simp only at hg;cases hfs:f s<;>rw [hfs] at hg<;>first
       | (cases hg;exact⟨hfs,by simp [hdo]⟩)
       | (simp at hg)
   have hu:upd f t (.bool b)=f:=A6t hft.1;have htn:a.tmps[t]?=some (.bool b):=by
    have h1:=hA.2.2 t;rw [hft.1] at h1;rw [Array.getD_eq_getD_getElem?] at h1;cases hx:a.tmps[t]? with
    | none=>rw [hx] at h1;cases h1
    | some x=>rw [hx] at h1;exact y5 some h1
   have hw:Region.wanted ⟨dst,op,T,pos,after,some (j,want)⟩ (yielded ops0.toArray a.tmps)=(b==want):=by simp only [Region.wanted,yielded,List.getElem?_toArray,hft.2,Option.bind_some,htn];cases b<;>cases want<;>rfl
   have yes:vOp P L T op f w (fun v w'=>N6 f dst v fun f'=>A4a P L ops0 r f' w' K)->(b==want)=true->wpList P ops0.toArray Q (⟨dst,op,T,pos,after,some (j,want)⟩::r) a w:=by intro h2 he;have hg:=Z7 hL T op f w _ h2 dst pos after (some (j,want));refine wpList_step fun Kn hKn=>?_;rw [y6 (by rw [hw];exact he)];unfold Oper.wp;rw [hA.eval];refine hg.upon _ _ _ _ fun v w' hk=>hKn _ _ ?_;rw [H4] at hk;exact P5 hL n ops0 K Q hQ r _ _ _ (hA.putO hd.1 v) hd.2 hk
   have no:N6 f dst undef (fun f'=>A4a P L ops0 r f' w K)->(b==want)=false->wpList P ops0.toArray Q (⟨dst,op,T,pos,after,some (j,want)⟩::r) a w:=by intro h2 he;refine wpList_step fun Kn hKn=>?_;rw [y7 (by rw [hw,he];simp)];refine hKn _ _ ?_;rw [H4] at h2;exact P5 hL n ops0 K Q hQ r _ _ _ (hA.putO hd.1 undef) hd.2 h2
   cases b<;>cases want<;>simp only [cond_true,cond_false,hu] at h'
   ·exact yes h' rfl
   ·exact no h' rfl
   ·exact no h' rfl
   ·exact yes h' rfl
theorem A9U {f:Fr}:∀ {l:List (Nat × Value)},B19 f l->∀ {t:Nat} {v:Value},lk l t=some v->f t=v
 | (s,v')::r,⟨h1,h2⟩,t,v,h=>by
  simp only [lk] at h;cases hb:Nat.beq t s with
  | true=>rw [hb] at h;have:=z8 hb;subst this;cases h;exact h1
  | false=>rw [hb] at h;exact A9U h2 h
theorem A55 {f:Fr} {l:List (Nat × Value)} (h:B19 f l):mk l f=f:=by
 funext t;unfold mk;cases hl:lk l t with
 | none=>rfl
 | some v=>exact (A9U h hl).symm
def B74 (n:Nat) (K:Exit->Fr->World->Prop) (e:Exit) (a:Act) (w:World):Prop:=∃ f,Agree n a f/\K e f w
theorem Q9 (hL:L.Ok P) (n:Nat):∀ (c:Code) (K:Exit->Fr->World->Prop) (a:Act) (f:Fr) (w:World),Agree n a f->K7 n c=true->M9 P L c f w K->c.wp P (B74 n K) a w:=by
 intro c;induction c with
 | skip=>intro K a f w hA _ h;exact wp_skip ⟨f,hA,h⟩
 | region id ops d=>
  intro K a f w hA hc h;cases d with
  | true=>
   have h':Drawn P id ops f w (K .normal):=h;exact wp_mono (h'.wp n a hc hA) fun e a w ⟨he,f',h1,h2⟩=>by subst he;exact⟨f',h1,h2⟩
  | false=>
   have h':A4a P L ops.toList ops.toList f w (K .normal):=h;have:=P5 hL n ops.toList (K .normal) (B74 n K) (fun a f w h1 h2=>⟨f,h1,h2⟩) ops.toList a f w hA hc h';exact wp_region_list (by simpa using this)
 | seq x y ihx ihy=>
  intro K a f w hA hc h;simp only [K7,z7] at hc;have h':M9 P L x f w (B6Y (M9 P L y) K):=h;refine wp_seq (wp_mono (ihx _ a f w hA hc.1 h') fun e a1 w1 ⟨f1,h1,h2⟩=>?_);cases e with
  | normal=>exact ihy K a1 f1 w1 h1 hc.2 h2
  | _=>exact⟨f1,h1,h2⟩
 | cond x y z ihy ihz=>
  intro K a f w hA hc h;simp only [K7,z7] at hc;have h':(match ev f x with
   | .bool t=>Bool.rec (motive:=fun _=>Prop) (M9 P L z f w K) (M9 P L y f w K) t
   | _=>False):=h
  split at h'
  ·rename_i t e;refine wp_cond (t:=t) (by rw [hA.eval];exact e) ?_;cases t
   ·exact ihz K a f w hA hc.2 h'
   ·exact ihy K a f w hA hc.1 h'
  ·exact h'.elim
 | block id b ih=>
  intro K a f w hA hc h;refine wp_block (wp_mono (ih _ a f w hA hc h) fun e a1 w1 ⟨f1,h1,h2⟩=>?_);cases e with
  | exit i=>
   have h3:cond (Nat.beq i id) (K .normal f1 w1) (K (.exit i) f1 w1):=h2;show if i=id then _ else _
   cases hb:Nat.beq i id with
   | true=>rw [hb] at h3;rw [y6 (z8 hb)];exact⟨f1,h1,h3⟩
   | false=>rw [hb] at h3;rw [y7 (fun e=>by subst e;simp at hb)];exact⟨f1,h1,h3⟩
  | _=>exact⟨f1,h1,h2⟩
 | loop b ih=>
  intro K a f w hA hc h;obtain⟨α,st,inv,μ,x0,hf,hi,hr⟩:=h;refine wp_loop_ghost (fun k a2 w2=>∃ x2 f2,Agree n a2 f2/\B19 f2 (st x2)/\inv x2 w2/\μ x2 w2=k) (μ x0 w) ⟨x0,f,hA,hf,hi,rfl⟩ ?_;rintro k a2 w2 ⟨x2,f2,hA2,hf2,hi2,rfl⟩;have h3:=hr x2 w2 f2 hi2;rw [A55 hf2] at h3;refine wp_mono (ih _ a2 f2 w2 hA2 hc h3) fun e a3 w3 ⟨f3,h4,h5⟩=>?_;cases e with
  | normal=>
   obtain⟨x3,h6,h7,h8⟩:=h5;exact⟨μ x3 w3,h8,x3,f3,h4,h6,h7,rfl⟩
  | _=>exact⟨f3,h4,h5⟩
 | rangeFunc=>intro K a f w hA hc h;exact h.elim
 | exit id=>intro K a f w hA _ h;exact wp_exit ⟨f,hA,h⟩
 | scope=>intro K a f w hA hc h;exact h.elim
 | label=>intro K a f w hA hc h;exact wp_label ⟨f,hA,h⟩
 | goto=>intro K a f w hA hc h;exact h.elim
 | ret=>intro K a f w hA hc h;exact wp_ret ⟨f,hA,h⟩
 | refuse=>intro K a f w hA hc h;exact h.elim
theorem A0a (hL:L.Ok P) (n:Nat) (a:Act) (f:Fr) (w:World) (hA:Agree n a f):
  ∀ (rs:List ResultVar) (vs:List Value) (K:List Value->Prop),A4S L f w rs vs K->
   ∃ l,(rs.mapM (fun | .tmp t=>pure (a.tmps.getD t undef) | .cell x t=>do loadVar t (<-asAddr (a.tmps.getD x undef))):Sem (List Value)).run P w=.ok l w/\K (vs.reverse++l)
 | [],vs,K,h=>⟨[],rfl,by rw [zw];exact h⟩
 | .tmp t::r,vs,K,h=>by
  simp only [A4S,G6] at h;obtain⟨l,h1,h2⟩:=A0a hL n a f w hA r _ K h;refine⟨f t::l,?_,by simpa using h2⟩;simp only [List.mapM_cons,Sem.run_bind,Sem.run_pure,Result.andThen_ok,h1,hA.2.2 t]
 | .cell x t::r,vs,K,h=>by
  have ht:=hL.ty t;have hx:=hA.2.2 x;have key:∀ (p:Addr) (v:Value),f x=.pointer (some p)->(loadVar t p).run P w=.ok v w->A4S L f w r (v::vs) K->
    ∃ l,((ResultVar.cell x t::r).mapM (fun | .tmp t=>pure (a.tmps.getD t undef) | .cell x t=>do loadVar t (<-asAddr (a.tmps.getD x undef))):Sem (List Value)).run P w=.ok l w/\K (vs.reverse++l):=by
   intro p v e hr hk;obtain⟨l,h1,h2⟩:=A0a hL n a f w hA r _ K hk;refine⟨v::l,?_,by simpa using h2⟩;have hax:(asAddr (a.tmps.getD x undef)).run P w=.ok p w:=by rw [hx,e];rfl
   simp only [List.mapM_cons,Sem.run_bind,hax,hr,Result.andThen_ok,Sem.run_pure,h1]
  simp only [A4S] at h;generalize hd:L.ty t=d at h ht;generalize he:f x=vx at h key;cases vx with
  | pointer p=>
   cases p with
   | none=>cases d<;>exact h.elim
   | some p=>
    cases d with
    | none=>exact h.elim
    | array n e esz z=>
     obtain⟨cs,h1,h2,h3⟩:=h;exact key p _ rfl (J3 ht.1 rfl (A1Y ht.2.1) h1 h2) h3
    | struct fs z=>
     obtain⟨cs,h1,h2,h3⟩:=h;obtain⟨⟨F,hu,_⟩,hz⟩:=ht;exact key p _ rfl (J3 hu rfl (A1Y hz) h1 h2) h3
    | int k=>obtain⟨v,h1,h2⟩:=h;exact key p _ rfl (C1 ht.1 rfl h1) h2
    | str=>obtain⟨v,h1,h2⟩:=h;exact key p _ rfl (C1 ht.1 rfl h1) h2
    | bool=>obtain⟨v,h1,h2⟩:=h;exact key p _ rfl (C1 ht.1 rfl h1) h2
    | slice e s=>obtain⟨v,h1,h2⟩:=h;exact key p _ rfl (C1 ht.1 rfl h1) h2
    | one z=>obtain⟨v,h1,h2⟩:=h;obtain⟨⟨u,hu,hg⟩,_⟩:=ht;exact key p _ rfl (C1 hu hg h1) h2
  | _=>cases d<;>exact h.elim
theorem B2F (l:List Value):(if h:l.toArray.size=1 then l.toArray[0] else .tuple l.toArray)=A4b l:=by
 match l with
 | []=>rfl
 | [v]=>rfl
 | v::u::r=>rw [dif_neg (by simp)];rfl
theorem M1 (hL:L.Ok P) (n:Nat) (a:Act) (f:Fr) (w:World) (hA:Agree n a f) (fn:Func) (R:Ending->World->Prop)
  (h:A4S L f w fn.results.toList [] fun vs=>R (.returned (A4b vs)) w):∃ v,(results fn a.tmps).run P w=.ok v w/\R (.returned v) w:=by
 obtain⟨l,h1,h2⟩:=A0a hL n a f w hA _ _ _ h;refine⟨A4b l,?_,by simpa using h2⟩;unfold results;rw [Sem.run_bind,Array.mapM_eq_mapM_toList,Sem.run_map];refine (y5 (fun (r:Result (List Value))=>(r.andThen fun a w'=>Result.ok a.toArray w').andThen fun (a:Array Value) w'=>Sem.run P (pure (if h:a.size=1 then a[0] else .tuple a)) w') h1).trans ?_;simp only [Result.andThen_ok,Sem.run_pure];rw [<-B2F]
theorem A3R (hL:L.Ok P) {k:Nat} {fn:Func} {c:Code} {args:List Value} {w:World} {R:Ending->World->Prop}
  (hf:P.funcs[k]?=some fn) (hb:fn.body=some c) (ha:Nat.ble args.length fn.ntmps=true) (hc:K7 fn.ntmps c=true)
  (h:M9 P L c (A52 args) w (fnK L fn.results R)):Calls P k args.toArray w R:=by
 refine calls_of_wp hf hb ?_;have hn:=ze ha;have hA:Agree fn.ntmps { tmps:=args.toArray++Array.replicate (fn.ntmps-args.toArray.size) undef,defers:=[] } (A52 args):=by
  refine⟨rfl,by simp;omega,fun t=>?_⟩;unfold A52;rw [Array.getD_eq_getD_getElem?,List.getD_eq_getElem?_getD];rcases zl t args.length with h1 | h1
  ·rw [Array.getElem?_append_left (by simpa using h1)];simp
  ·rw [Array.getElem?_append_right (by simpa using h1),List.getElem?_eq_none h1];simp only [Array.getElem?_replicate];split<;>rfl
 refine wp_mono (Q9 hL _ c _ _ _ w hA hc h) fun e a w ⟨f,h1,h2⟩=>?_;cases e with
 | normal=>exact⟨h1.1,M1 hL _ a f w h1 fn R h2⟩
 | ret=>exact⟨h1.1,M1 hL _ a f w h1 fn R h2⟩
 | _=>exact h2.elim
theorem A0x {b:Bool} {T F:Prop} (h1:b=true->T) (h2:b=false->F):Bool.rec (motive:=fun _=>Prop) F T b:=by
 cases b
 ·exact h2 rfl
 ·exact h1 rfl
theorem B0 {b:Bool} {T F:Prop} (h:b=true) (h1:T):Bool.rec (motive:=fun _=>Prop) F T b:=by subst h;exact h1
theorem C3X {b:Bool} {T F:Prop} (h:b=false) (h1:F):Bool.rec (motive:=fun _=>Prop) F T b:=by subst h;exact h1
theorem dt {p:Prop} [Decidable p] {T F:Prop} (h:p) (h1:T):Bool.rec (motive:=fun _=>Prop) F T (decide p):=B0 (zy h) h1
theorem df {p:Prop} [Decidable p] {T F:Prop} (h:¬ p) (h1:F):Bool.rec (motive:=fun _=>Prop) F T (decide p):=C3X (zz h) h1
end
#print axioms A3R
end Go.Vc
end
section
namespace Go.Vc
open Go Go.RowKit
def Fut (S:Nat->Prop) (w:World) (S':Nat->Prop) (w':World):Prop:=(∀ b,S b->S' b)/\∀ b,S b->w'.heap[b]?=w.heap[b]?
theorem Fut.refl (S:Nat->Prop) (w:World):Fut S w S w:=⟨fun _ h=>h,fun _ _=>rfl⟩
theorem Fut.trans {S S' S'':Nat->Prop} {w w' w'':World} (h:Fut S w S' w') (k:Fut S' w' S'' w''):Fut S w S'' w'':=
 ⟨fun b hb=>k.1 b (h.1 b hb),fun b hb=>(k.2 b (h.1 b hb)).trans (h.2 b hb)⟩
def ext (S:Nat->Prop) (w w':World):Nat->Prop:=fun b=>S b\/(w.heap.size<=b/\b<w'.heap.size)
abbrev LB:=Nat × Nat × List Value
def Blk (w:World) (g T:Nat) (cs:List Value):Prop:=w.heap[g]?=some (.cells cs.toArray T (0,0))
def Locs (S:Nat->Prop) (n0:Nat) (w:World):List LB->Prop
 | []=>True
 | (g,T,cs)::r=>n0<=g/\¬ S g/\Blk w g T cs/\(∀ x∈r,x.1≠g)/\Locs S n0 w r
theorem Blk.lt {w:World} {g T:Nat} {cs:List Value} (h:Blk w g T cs):g<w.heap.size:=by
 rcases zl g w.heap.size with hl | hg
 ·exact hl
 ·unfold Blk at h;rw [Array.getElem?_eq_none hg] at h;cases h
theorem Blk.cell {w:World} {g T:Nat} {cs:List Value} (h:Blk w g T cs) (i:Nat):w.cell? ⟨g,i,none⟩=cs[i]?:=by unfold Blk at h;simp [World.cell?,h]
theorem Blk.frozen {w:World} {g T:Nat} {cs:List Value} (h:Blk w g T cs) (i:Nat):w.frozen? ⟨g,i,none⟩=false:=by unfold Blk at h;simp [World.frozen?,h]
theorem Blk.of_eq {w w':World} {g T:Nat} {cs:List Value} (h:Blk w g T cs) (e:w'.heap[g]?=w.heap[g]?):Blk w' g T cs:=e.trans h
theorem New.below {w w':World} {cs:List Value} {T g:Nat} (h:New w cs T g w'):Below w.heap.size w w':=by obtain⟨rfl,rfl⟩:=h;exact (Below.refl _ _).alloc (zc _) _
theorem New.blk {w w':World} {cs:List Value} {T g:Nat} (h:New w cs T g w'):Blk w' g T cs:=by obtain⟨rfl,rfl⟩:=h;exact heap_alloc_new w _
theorem Locs.mono {S S':Nat->Prop} {n0:Nat} {w w':World}:∀ {l:List LB},Locs S n0 w l->(∀ x∈l,w'.heap[x.1]?=w.heap[x.1]?)->(∀ x∈l,S' x.1->S x.1)->Locs S' n0 w' l
 | [],_,_,_=>trivial
 | (g,T,cs)::r,⟨h1,h2,h3,h4,h5⟩,he,hs=>
  ⟨h1,fun h=>h2 (hs _ (zu ..) h),h3.of_eq (he _ (zu ..)),h4,
   h5.mono (fun x hx=>he x (zt _ hx)) (fun x hx=>hs x (zt _ hx))⟩
theorem Locs.lt {S:Nat->Prop} {n0:Nat} {w:World}:∀ {l:List LB},Locs S n0 w l->∀ x∈l,x.1<w.heap.size
 | (g,T,cs)::r,⟨h1,h2,h3,h4,h5⟩,x,hx=>by
  cases hx with
  | head=>exact h3.lt
  | tail _ h=>exact h5.lt x h
structure Ctx (S0:Nat->Prop) (w0:World) (S:Nat->Prop) (w:World) (l:List LB):Prop where
 below:Below w0.heap.size w0 w
 sub:∀ b,S0 b->S b
 new:∀ b,S b->S0 b\/w0.heap.size<=b
 lt:∀ b,S b->b<w.heap.size
 locs:Locs S w0.heap.size w l
section
variable {S0 S:Nat->Prop} {w0 w w':World} {l:List LB}
theorem Ctx.start (w0:World) (S0:Nat->Prop) (h:∀ b,S0 b->b<w0.heap.size):Ctx S0 w0 S0 w0 []:=
 ⟨Below.refl _ _,fun _ h=>h,fun _ h=>.inl h,h,trivial⟩
theorem A9V (hlt:∀ b,S b->b<w.heap.size) (h:Below w.heap.size w w'):Fut S w (ext S w w') w':=
 ⟨fun _ hb=>.inl hb,fun b hb=>h.block b (hlt b hb)⟩
theorem Ctx.loc (hc:Ctx S0 w0 S w l) {cs:List Value} {T g:Nat} (hN:New w cs T g w'):Ctx S0 w0 S w' ((g,T,cs)::l)/\Fut S w S w':=by
 have hb:=hN.below;have hg:g=w.heap.size:=hN.1;have hfut:Fut S w S w':=⟨fun _ h=>h,fun b h=>hb.block b (hc.lt b h)⟩;refine⟨⟨hc.below.trans (hb.mono hc.below.size),hc.sub,hc.new,fun b h=>Nat.lt_of_lt_of_le (hc.lt b h) hb.size,?_⟩,hfut⟩;refine⟨by rw [hg];exact hc.below.size,fun h=>by have:=hc.lt _ h;omega,hN.blk,fun x hx e=>?_,?_⟩
 ·have:=hc.locs.lt x hx;omega
 ·exact hc.locs.mono (fun x hx=>hb.block _ (hc.locs.lt x hx)) (fun _ _ h=>h)
theorem Ctx.call (hc:Ctx S0 w0 S w l) (hb:Below w.heap.size w w'):Ctx S0 w0 (ext S w w') w' l/\Fut S w (ext S w w') w':=by
 refine⟨⟨hc.below.trans (hb.mono hc.below.size),fun b h=>.inl (hc.sub b h),fun b h=>?_,fun b h=>?_,?_⟩,A9V hc.lt hb⟩
 ·rcases h with h | h
  ·exact hc.new b h
  ·exact .inr (zo hc.below.size h.1)
 ·rcases h with h | h
  ·exact Nat.lt_of_lt_of_le (hc.lt b h) hb.size
  ·exact h.2
 ·refine hc.locs.mono (fun x hx=>hb.block _ (hc.locs.lt x hx)) (fun x hx h=>?_);rcases h with h | h
  ·exact h
  ·have:=hc.locs.lt x hx;omega
theorem Ctx.quiet (hc:Ctx S0 w0 S w l) (hb:Below w.heap.size w w'):Ctx S0 w0 S w' l/\Fut S w S w':=by refine⟨⟨hc.below.trans (hb.mono hc.below.size),hc.sub,hc.new,fun b h=>Nat.lt_of_lt_of_le (hc.lt b h) hb.size,?_⟩,⟨fun _ h=>h,fun b h=>hb.block b (hc.lt b h)⟩⟩;exact hc.locs.mono (fun x hx=>hb.block _ (hc.locs.lt x hx)) (fun _ _ h=>h)
end
theorem Locs.get {S:Nat->Prop} {n0:Nat} {w:World}:∀ {l:List LB},Locs S n0 w l->∀ {k g T:Nat} {cs:List Value},l[k]?=some (g,T,cs)->Blk w g T cs
 | (g,T,cs)::r,⟨_,_,h3,_,h5⟩,k,g',T',cs',h=>by
  cases k with
  | zero=>simp at h;obtain⟨rfl,rfl,rfl⟩:=h;exact h3
  | succ k=>exact h5.get (by simpa using h)
theorem Ctx.blk {S0 S:Nat->Prop} {w0 w:World} {l:List LB} (hc:Ctx S0 w0 S w l) (k:Nat) {g T:Nat} {cs:List Value} (h:l[k]?=some (g,T,cs)):Blk w g T cs:=hc.locs.get h
theorem Ctx.cell {S0 S:Nat->Prop} {w0 w:World} {l:List LB} (hc:Ctx S0 w0 S w l) (k:Nat) {g T:Nat} {cs:List Value} (h:l[k]?=some (g,T,cs)) (i:Nat) {v:Value} (hv:cs[i]?=some v):w.cell? ⟨g,i,none⟩=some v:=
 ((hc.blk k h).cell i).trans hv
theorem B5 {w:World} {g T:Nat} {cs:List Value} (h:Blk w g T cs) (o:Nat):∀ (xs:List Value) (i:Nat),(∀ j v,xs[j]?=some v->cs[o+i+j]?=some v)->cellsAt w ⟨g,o,none⟩ xs i
 | [],_,_=>trivial
 | v::r,i,hx=>by
  refine⟨?_,B5 h o r (i+1) (fun j u hj=>?_)⟩
  ·rw [Addr.add_lit,h.cell];simpa using hx 0 v rfl
  ·have:=hx (j+1) u (by simpa using hj);rwa [show o+i+(j+1)=o+(i+1)+j from by omega] at this
theorem Ctx.cells {S0 S:Nat->Prop} {w0 w:World} {l:List LB} (hc:Ctx S0 w0 S w l) (k:Nat) {g T:Nat} {cs:List Value} (h:l[k]?=some (g,T,cs)):cellsAt w ⟨g,0,none⟩ cs 0:=
 B5 (hc.blk k h) 0 cs 0 (fun j v hj=>by simpa using hj)
theorem Ctx.cellsAt {S0 S:Nat->Prop} {w0 w:World} {l:List LB} (hc:Ctx S0 w0 S w l) (k:Nat) {g T:Nat} {cs:List Value} (h:l[k]?=some (g,T,cs)) (o:Nat) (xs:List Value) (hx:(cs.drop o).take xs.length=xs):Go.Vc.cellsAt w ⟨g,o,none⟩ xs 0:=
 B5 (hc.blk k h) o xs 0 (fun j v hj=>by
  rw [<-hx] at hj;rw [List.getElem?_take] at hj;split at hj
  ·rw [List.getElem?_drop] at hj;simpa using hj
  ·cases hj)
theorem U5 {w:World} {g T:Nat} {cs:List Value} (h:Blk w g T cs) (o:Nat):∀ (xs:List Value) (i:Nat),o+i+xs.length<=cs.length->(∀ v∈xs,v.oneCell'=true)->C7 w ⟨g,o,none⟩ xs i
 | [],_,_,_=>trivial
 | v::r,i,hl,h1=>by
  simp only [zi] at hl;refine⟨⟨cs[o+i]'(by omega),?_⟩,?_,h1 v (zu ..),U5 h o r (i+1) (by omega) (fun u hu=>h1 u (zt _ hu))⟩
  ·rw [Addr.add_lit,h.cell];exact List.getElem?_eq_getElem (by omega)
  ·rw [Addr.add_lit];exact h.frozen _
def D7:List Value->Bool
 | []=>true
 | v::r=>v.oneCell'&&D7 r
theorem H7:∀ {l:List Value},D7 l=true->∀ v∈l,v.oneCell'=true
 | u::r,h,v,hv=>by
  simp only [D7,z7] at h;cases hv with
  | head=>exact h.1
  | tail _ h'=>exact H7 h.2 v h'
theorem Ctx.may {S0 S:Nat->Prop} {w0 w:World} {l:List LB} (hc:Ctx S0 w0 S w l) (k:Nat) {g T:Nat} {cs:List Value} (h:l[k]?=some (g,T,cs)) (o:Nat) (xs:List Value) (hl:o+xs.length<=cs.length) (h1:D7 xs=true):C7 w ⟨g,o,none⟩ xs 0:=
 U5 (hc.blk k h) o xs 0 (by omega) (H7 h1)
theorem H8 {g T:Nat} (o:Nat):∀ (xs:List Value) (w:World) (i:Nat) (cs:List Value),Blk w g T cs->
  Blk (stored w ⟨g,o,none⟩ xs i) g T (C0 cs (o+i) xs)/\(∀ b,b≠g->(stored w ⟨g,o,none⟩ xs i).heap[b]?=w.heap[b]?)/\
   (stored w ⟨g,o,none⟩ xs i).heap.size=w.heap.size/\(stored w ⟨g,o,none⟩ xs i).os=w.os/\(stored w ⟨g,o,none⟩ xs i).tape=w.tape/\(stored w ⟨g,o,none⟩ xs i).output=w.output
 | [],w,i,cs,h=>⟨h,fun _ _=>rfl,rfl,rfl,rfl,rfl⟩
 | v::r,w,i,cs,h=>by
  have hb:Blk (w.setCell ((⟨g,o,none⟩:Addr).add i) v) g T (cs.set (o+i) v):=by rw [Addr.add_lit];unfold Blk at h ⊢;simp only [World.setCell,Array.getElem?_modify];rw [y6 trivial,h];simp
  obtain⟨h1,h2,h3,h4,h5,h6⟩:=H8 o r _ (i+1) _ hb;refine⟨h1,fun b hne=>(h2 b hne).trans ?_,h3.trans (by simp),h4.trans rfl,h5.trans rfl,h6.trans rfl⟩;rw [Addr.add_lit];exact Below.heap_setCell w _ v b hne
def F4:List LB->Nat->List Value->List LB
 | [],_,_=>[]
 | (g,T,_)::r,0,cs=>(g,T,cs)::r
 | x::r,k+1,cs=>x::F4 r k cs
theorem J4:∀ {l:List LB} {k:Nat} {cs:List Value} {x:LB},x∈F4 l k cs->∃ y∈l,y.1=x.1
 | (g,T,c)::r,0,cs,x,h=>by
  simp only [F4] at h;cases h with
  | head=>exact⟨(g,T,c),zu ..,rfl⟩
  | tail _ h=>exact⟨x,zt _ h,rfl⟩
 | y::r,k+1,cs,x,h=>by
  simp only [F4] at h;cases h with
  | head=>exact⟨_,zu ..,rfl⟩
  | tail _ h=>obtain⟨z,h1,h2⟩:=J4 h;exact⟨z,zt _ h1,h2⟩
theorem Locs.set {S:Nat->Prop} {n0:Nat} {w w':World}:∀ {l:List LB} {k g T:Nat} {cs cs':List Value},Locs S n0 w l->l[k]?=some (g,T,cs)->Blk w' g T cs'->(∀ b,b≠g->w'.heap[b]?=w.heap[b]?)->Locs S n0 w' (F4 l k cs')
 | (g',T',c)::r,k,g,T,cs,cs',⟨h1,h2,h3,h4,h5⟩,hk,hb,ho=>by
  cases k with
  | zero=>
   simp at hk;obtain⟨rfl,rfl,rfl⟩:=hk;exact⟨h1,h2,hb,h4,h5.mono (fun x hx=>ho _ (h4 x hx)) (fun _ _ h=>h)⟩
  | succ k=>
   have hk':r[k]?=some (g,T,cs):=by simpa using hk
   have hne:g≠g':=h4 _ (List.mem_of_getElem? hk');refine⟨h1,h2,h3.of_eq (ho _ (Ne.symm hne)),fun x hx=>?_,h5.set hk' hb ho⟩;obtain⟨y,hy,e⟩:=J4 hx;rw [<-e];exact h4 y hy
theorem Locs.notS {S:Nat->Prop} {n0:Nat} {w:World}:∀ {l:List LB},Locs S n0 w l->∀ {k g T:Nat} {cs:List Value},l[k]?=some (g,T,cs)->¬ S g/\n0<=g
 | (g,T,cs)::r,⟨h0,h2,h3,_,h5⟩,k,g',T',cs',h=>by
  cases k with
  | zero=>simp at h;obtain⟨rfl,rfl,rfl⟩:=h;exact⟨h2,h0⟩
  | succ k=>exact h5.notS (by simpa using h)
theorem Ctx.set {S0 S:Nat->Prop} {w0 w w':World} {l:List LB} (hc:Ctx S0 w0 S w l) (k:Nat) {g T:Nat} {cs:List Value} (h:l[k]?=some (g,T,cs)) {o:Nat} {xs:List Value} (hS:D0 w ⟨g,o,none⟩ xs w'):
  Ctx S0 w0 S w' (F4 l k (C0 cs o xs))/\Fut S w S w':=by
 obtain⟨h1,h2,h3,h4,h5,h6⟩:=H8 o xs w 0 cs (hc.blk k h);rw [<-(show w'=_ from hS)] at h1 h2 h3 h4 h5 h6;obtain⟨hn,hge⟩:=hc.locs.notS h;refine⟨⟨?_,hc.sub,hc.new,fun b hb=>by rw [h3];exact hc.lt b hb,hc.locs.set h (by simpa using h1) h2⟩,⟨fun _ h=>h,fun b hb=>h2 b (fun e=>hn (e▸hb))⟩⟩;exact hc.below.trans ⟨h4,h5,h6,by omega,fun b hb=>h2 b (by omega)⟩
def Row (S:Nat->Prop) (w:World) (A:Option Addr) (n cap:Nat) (xs:List Value):Prop:=
 n<=cap/\cap<=maxLen/\(xs≠[]->∃ ad,A=some ad/\S ad.block/\∀ j u,xs[j]?=some u->w.cell? (ad.add j)=some u)
theorem K8 (a:Addr) (n:Nat):(a.add n).block=a.block:=by unfold Addr.add;split<;>rfl
theorem add_add (a:Addr) (i j:Nat):(a.add i).add j=a.add (i+j):=by unfold Addr.add;by_cases hi:i=0<;>by_cases hj:j=0<;>simp [hi,hj,Nat.add_assoc]
theorem Row.fut {S S':Nat->Prop} {w w':World} {A:Option Addr} {n cap:Nat} {xs:List Value} (h:Row S w A n cap xs) (f:Fut S w S' w'):Row S' w' A n cap xs:=
 ⟨h.1,h.2.1,fun hx=>by obtain⟨ad,e,hs,hc⟩:=h.2.2 hx;exact⟨ad,e,f.1 _ hs,fun j u hu=>(World.cell?_of_block (f.2 _ (by rw [K8];exact hs))).trans (hc j u hu)⟩⟩
theorem Row.get {S:Nat->Prop} {w:World} {A:Option Addr} {n cap:Nat} {xs:List Value} (h:Row S w A n cap xs) {i:Nat} (hi:i<xs.length):
  ∃ ad,A=some ad/\∀ j u,xs[j]?=some u->w.cell? (ad.add j)=some u:=by
 obtain⟨ad,e,_,hc⟩:=h.2.2 (fun e=>by subst e;simp at hi);exact⟨ad,e,hc⟩
theorem Z8 {w:World} {ad:Addr} {xs:List Value} (hc:∀ j u,xs[j]?=some u->w.cell? (ad.add j)=some u) (o:Nat):∀ (ys:List Value) (i:Nat),(∀ j u,ys[j]?=some u->xs[o+i+j]?=some u)->Go.Vc.cellsAt w (ad.add o) ys i
 | [],_,_=>trivial
 | v::r,i,h=>by
  refine⟨?_,Z8 hc o r (i+1) (fun j u hj=>?_)⟩
  ·rw [add_add];exact hc _ _ (by simpa using h 0 v rfl)
  ·have:=h (j+1) u (by simpa using hj);rwa [show o+i+(j+1)=o+(i+1)+j from by omega] at this
def C8 (v:Value) (w:World) (e:Ending) (w':World):Prop:=e=.returned v/\Below w.heap.size w w'
theorem B7 {a b:Bool} (h:a=b):Ending.returned (.bool a)=.returned (.bool b):=by rw [h]
theorem Y6 {k:IntKind} {a b:Int} (h:a=b):Ending.returned (.int k a)=.returned (.int k b):=by rw [h]
theorem X4 {b:Int} {B:Prop} (h:b≠0) (k:B):b≠0/\B:=⟨h,k⟩
theorem B4 {P:Program} {n:Nat} {args:List Value} {w:World} {v:Value} {K:Value->World->Prop} (h:Calls P n args.toArray w (C8 v w))
  (k:∀ w',Below w.heap.size w w'->K v w'):CallVc P n args w K:=
 ⟨h.mono fun _ w' ⟨he,hb⟩=>⟨v,he,k w' hb⟩⟩
theorem Ctx.out {S0 S:Nat->Prop} {w0 w:World} {l:List LB} (hc:Ctx S0 w0 S w l):Fut S w (ext S0 w0 w) w:=
 ⟨fun b hb=>by
  rcases hc.new b hb with h | h
  ·exact .inl h
  ·exact .inr ⟨h,hc.lt b hb⟩,fun _ _=>rfl⟩
section
variable {S0 S:Nat->Prop} {w0 w:World} {l:List LB} {g T:Nat} {cs xs:List Value} {o:Nat} {K:World->Prop}
theorem Ctx.s (hc:Ctx S0 w0 S w l) (k:Nat) (h:l[k]?=some (g,T,cs)) (hk:∀ w',D0 w ⟨g,o,none⟩ xs w'->Ctx S0 w0 S w' (F4 l k (C0 cs o xs))->K w') (hl:Nat.ble (o+xs.length) cs.length=true:=by rfl) (h1:D7 xs=true:=by rfl):C7 w ⟨g,o,none⟩ xs 0/\∀ w',D0 w ⟨g,o,none⟩ xs w'->K w':=
 ⟨hc.may k h o xs (ze hl) h1,fun w' hS=>hk w' hS (hc.set k h hS).1⟩
theorem Ctx.s' (hc:Ctx S0 w0 S w l) (k:Nat) (h:l[k]?=some (g,T,cs)) (hk:∀ w',D0 w ⟨g,o,none⟩ xs w'->Ctx S0 w0 S w' (F4 l k (C0 cs o xs))->K w') (hl:Nat.ble (o+xs.length) cs.length=true:=by rfl) (h1:D7 xs=true:=by rfl):C7 w ⟨g,o,none⟩ xs 0/\∀ w',D0 w ⟨g,o,none⟩ xs w'->True/\K w':=
 ⟨hc.may k h o xs (ze hl) h1,fun w' hS=>⟨trivial,hk w' hS (hc.set k h hS).1⟩⟩
theorem Ctx.c (hc:Ctx S0 w0 S w l) (k:Nat) (h:l[k]?=some (g,T,cs)) {i:Nat} {v:Value} {K:Value->Prop} (hv:cs[i]?=some v) (hk:K v):∃ v,w.cell? ⟨g,i,none⟩=some v/\K v:=⟨v,hc.cell k h i hv,hk⟩
theorem Ctx.a (hc:Ctx S0 w0 S w l) (k:Nat) (h:l[k]?=some (g,T,cs)) {n:Nat} {K:List Value->Prop} (hn:cs.length=n) (hk:K cs):∃ ds:List Value,ds.length=n/\Go.Vc.cellsAt w ⟨g,0,none⟩ ds 0/\K ds:=⟨cs,hn,hc.cells k h,hk⟩
theorem Ctx.a' (hc:Ctx S0 w0 S w l) (k:Nat) (h:l[k]?=some (g,T,cs)) {n:Nat} {K:List Value->Prop} (hn:cs.length=n) (hk:K cs):∃ ds:List Value,ds.length=n/\Go.Vc.cellsAt w ⟨g,0,none⟩ ds 0/\True/\K ds:=⟨cs,hn,hc.cells k h,trivial,hk⟩
theorem Ctx.n (hc:Ctx S0 w0 S w l) {K:Nat->World->Prop} (hk:∀ g w',New w cs T g w'->Ctx S0 w0 S w' ((g,T,cs)::l)->K g w'):∀ g w',New w cs T g w'->K g w':=fun g w' h=>hk g w' h (hc.loc h).1
theorem Ctx.n' (hc:Ctx S0 w0 S w l) {K:Nat->World->Prop} (hk:∀ g w',New w cs T g w'->Ctx S0 w0 S w' ((g,T,cs)::l)->K g w'):∀ g w',New w cs T g w'->True/\K g w':=fun g w' h=>⟨trivial,hk g w' h (hc.loc h).1⟩
theorem Ctx.q (hc:Ctx S0 w0 S w l) {P:Program} {n:Nat} {args:List Value} {v:Value} {K:Value->World->Prop} (h:Calls P n args.toArray w (C8 v w)) (hk:∀ w',Below w.heap.size w w'->Ctx S0 w0 S w' l->K v w'):CallVc P n args w K:=B4 h fun w' hb=>hk w' hb (hc.quiet hb).1
theorem Ctx.q' (hc:Ctx S0 w0 S w l) {P:Program} {n:Nat} {args:List Value} {v:Value} {K:Value->World->Prop} (h:Calls P n args.toArray w (C8 v w)) (hk:∀ w',Below w.heap.size w w'->Ctx S0 w0 S w' l->K v w'):CallVc P n args w (fun v w'=>True/\K v w'):=B4 h fun w' hb=>⟨trivial,hk w' hb (hc.quiet hb).1⟩
end
end Go.Vc
end
