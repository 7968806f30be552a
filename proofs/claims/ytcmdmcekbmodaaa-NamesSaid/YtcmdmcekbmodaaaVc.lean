/-
  A verification condition function for the model's code, and its soundness against the library's wp.
  Frames are functions from slots to values; 'vcCode' is made to be evaluated by whnf.
-/
import Derived.WalkKit
import Derived.Below
import Derived.Deep.Draws
namespace Go.Vc
open Go

abbrev Fr := Nat → Value
def upd (f : Fr) (t : Nat) (v : Value) : Fr := fun s => bif Nat.beq s t then v else f s
def updO (f : Fr) (d : Option Nat) (v : Value) : Fr := match d with | some t => upd f t v | none => f
def ev (f : Fr) : Operand → Value
  | .tmp t => f t
  | .const v => v
  | .global g => .pointer (some ⟨g, 0, none⟩)
  | .func n => .func (.func n) #[] #[]

/-- The value, its constructor laid open. -/
def force (v : Value) (K : Value → Prop) : Prop :=
  match v with
  | .bool b => K (.bool b)
  | .int k n => K (.int k n)
  | .float k n => K (.float k n)
  | .complex k n m => K (.complex k n m)
  | .string s => K (.string s)
  | .pointer a => K (.pointer a)
  | .slice a n c => K (.slice a n c)
  | .map r => K (.map r)
  | .chan r => K (.chan r)
  | .func f a c => K (.func f a c)
  | .nilFunc => K .nilFunc
  | .iface t x => K (.iface t x)
  | .nilIface => K .nilIface
  | .agg cs => K (.agg cs)
  | .tuple cs => K (.tuple cs)

/-- What is used of a type. 'one': any other type of one cell. -/
inductive TD where
  | none
  | int (k : IntKind)
  | str
  | bool
  | slice (e esz : Nat)
  | array (n e esz : Nat) (z : List Value)
  | struct (fs : List (Nat × Nat × Bool)) (z : List Value)
  | one (z : Value)

def TD.isAgg : TD → Bool
  | .array .. => true
  | .struct .. => true
  | _ => false
def TD.size : TD → Nat
  | .none => 0
  | .array _ _ _ z => z.length
  | .struct _ z => z.length
  | _ => 1
def TD.zero : TD → List Value
  | .none => []
  | .int k => [.int k 0]
  | .str => [.string ByteArray.empty]
  | .bool => [.bool false]
  | .slice .. => [Value.slice Option.none 0 0]
  | .array _ _ _ z => z
  | .struct _ z => z
  | .one z => [z]

def layOf : List (Nat × TD) → Nat → TD
  | [], _ => .none
  | (s, d) :: r, t => bif Nat.beq t s then d else layOf r t
def elemB : List Nat → Nat → Bool
  | [], _ => false
  | s :: r, t => bif Nat.beq t s then true else elemB r t

/-- The tables: types, and the functions that have a body. -/
structure Lay where
  ty : Nat → TD
  fns : Nat → Bool

def cellsAt (w : World) (a : Addr) : List Value → Nat → Prop
  | [], _ => True
  | v :: r, i => w.cell? (a.add i) = some v ∧ cellsAt w a r (i + 1)

/-- A program of memory and values that runs to a value. -/
def Runs (P : Program) (s : Sem Value) (w : World) (k : Value → World → Prop) : Prop := ∃ v w', s.run P w = .ok v w' ∧ k v w'
/-- .. of data alone: the world plays no part. -/
def Pure (P : Program) (s : Sem Value) (k : Value → Prop) : Prop := ∃ v, (∀ w, s.run P w = .ok v w) ∧ k v

def intSame : IntKind → IntKind → Bool
  | .i8, .i8 => true | .i16, .i16 => true | .i32, .i32 => true | .i64, .i64 => true
  | .u8, .u8 => true | .u16, .u16 => true | .u32, .u32 => true | .u64, .u64 => true
  | _, _ => false

def strEq (a b : ByteArray) : Bool := a.data.toList == b.data.toList
def strLt (a b : ByteArray) : Bool := Op.bytesLess a.data.toList b.data.toList

def vInt (P : Program) (op : BinOp) (T : Nat) (k : IntKind) (a b : Int) (K : Value → Prop) : Prop :=
  match op with
  | .add => K (.int k (k.wrap (a + b)))
  | .sub => K (.int k (k.wrap (a - b)))
  | .mul => K (.int k (k.wrap (a * b)))
  | .eql => K (.bool (a == b))
  | .neq => K (.bool (a != b))
  | .lss => K (.bool (decide (a < b)))
  | .leq => K (.bool (decide (a ≤ b)))
  | .gtr => K (.bool (decide (b < a)))
  | .geq => K (.bool (decide (b ≤ a)))
  | .quo => b ≠ 0 ∧ K (.int k (k.wrap (a.tdiv b)))
  | .rem => b ≠ 0 ∧ K (.int k (a.tmod b))
  | .and => K (.int k (bits .and k a b))
  | .or => K (.int k (bits .or k a b))
  | .xor => K (.int k (bits .xor k a b))
  | _ => Pure P (binOp op T (.int k a) (.int k b)) K

def vStr (P : Program) (op : BinOp) (T : Nat) (a b : ByteArray) (K : Value → Prop) : Prop :=
  match op with
  | .add => a.size + b.size ≤ 9223372036854775807 ∧ K (.string (a ++ b))
  | .eql => K (.bool (strEq a b))
  | .neq => K (.bool (!strEq a b))
  | .lss => K (.bool (strLt a b))
  | .leq => K (.bool (strLt a b || strEq a b))
  | .gtr => K (.bool (!(strLt a b || strEq a b)))
  | .geq => K (.bool (!strLt a b))
  | _ => Pure P (binOp op T (.string a) (.string b)) K

def isShift : BinOp → Bool
  | .shl => true
  | .shr => true
  | _ => false

def vShift (P : Program) (op : BinOp) (T : Nat) (k yk : IntKind) (a b : Int) (K : Value → Prop) : Prop :=
  match op with
  | .shl => (0 ≤ b ∧ b ≤ k.bits) ∧ K (.int k (k.wrap (a * 2 ^ b.toNat)))
  | .shr => (0 ≤ b ∧ b ≤ k.bits) ∧ K (.int k (a / 2 ^ b.toNat))
  | _ => Pure P (binOp op T (.int k a) (.int yk b)) K

def TD.isBool : TD → Bool
  | .bool => true
  | _ => false
def vBin (P : Program) (isB : Bool) (op : BinOp) (T : Nat) (ox oy : Operand) (x y : Value) (K : Value → Prop) : Prop :=
  match x, y with
  | .int k a, .int k' b =>
    bif isShift op then vShift P op T k k' a b K
    else bif intSame k k' then vInt P op T k a b K else False
  | .string a, .string b => vStr P op T a b K
  | .bool a, .bool b => cond isB
    (match op with
    | .eql => K (.bool (a == b))
    | .neq => K (.bool (!(a == b)))
    | _ => False) False
  | x, y => Pure P (do eqGuard op T ox oy x y; binOp op T x y) K

def vUn (P : Program) (op : UnOp) (x : Value) (K : Value → Prop) : Prop :=
  match op, x with
  | .not, .bool b => K (.bool (!b))
  | .neg, .int k n => K (.int k (k.wrap (0 - n)))
  | op, x => Pure P (Op.unary op x) K

def cellsK (v : Value) (K : List Value → Prop) : Prop :=
  match v with
  | .agg cs => K cs.toList
  | .bool b => K [.bool b]
  | .int k n => K [.int k n]
  | .float k n => K [.float k n]
  | .complex k n m => K [.complex k n m]
  | .string s => K [.string s]
  | .pointer a => K [.pointer a]
  | .slice a n c => K [.slice a n c]
  | .map r => K [.map r]
  | .chan r => K [.chan r]
  | .func f a c => K [.func f a c]
  | .nilFunc => K [.nilFunc]
  | .iface t x => K [.iface t x]
  | .nilIface => K [.nilIface]
  | .tuple cs => K [.tuple cs]
/-- Cells put over a list of cells from a place on. -/
def putAt : List Value → Nat → List Value → List Value
  | cs, _, [] => cs
  | cs, i, v :: r => putAt (cs.set i v) (i + 1) r
def fillF (fs : List (Nat × Nat × Bool)) : List Value → List (Nat × Value) → Option (List Value)
  | cs, [] => some cs
  | cs, (i, v) :: r => match fs[i]? with
    | some (off, size, _) => bif Nat.beq v.cells.size size && Nat.ble (off + size) cs.length then fillF fs (putAt cs off v.cells.toList) r else none
    | none => none
def fillA (esz : Nat) : List Value → List (Nat × Value) → Option (List Value)
  | cs, [] => some cs
  | cs, (i, v) :: r => bif Nat.beq v.cells.size esz && Nat.ble (i * esz + esz) cs.length then fillA esz (putAt cs (i * esz) v.cells.toList) r else none
def zeros (z : List Value) : Nat → List Value
  | 0 => []
  | n + 1 => z ++ zeros z n

def pMap (f : Fr) : List (Nat × Operand) → (List (Nat × Value) → Prop) → Prop
  | [], K => K []
  | (i, x) :: r, K => force (ev f x) fun v => pMap f r fun l => K ((i, v) :: l)
def vMap (f : Fr) : List Operand → (List Value → Prop) → Prop
  | [], K => K []
  | x :: r, K => force (ev f x) fun v => vMap f r fun l => K (v :: l)

/-- A new row of cells: its block, the world then. -/
def New (w : World) (cs : List Value) (T : Nat) (g : Nat) (w' : World) : Prop := g = w.heap.size ∧ w' = w.alloc (.cells cs.toArray T)
/-- Cells stored from an address on. -/
def stored : World → Addr → List Value → Nat → World
  | w, _, [], _ => w
  | w, a, v :: r, i => stored (w.setCell (a.add i) v) a r (i + 1)
def Stored (w : World) (a : Addr) (cs : List Value) (w' : World) : Prop := w' = stored w a cs 0
/-- All these cells may be written. -/
def mayStore (w : World) (a : Addr) : List Value → Nat → Prop
  | [], _ => True
  | v :: r, i => (∃ u, w.cell? (a.add i) = some u) ∧ w.frozen? (a.add i) = false ∧ v.oneCell' = true ∧ mayStore w a r (i + 1)

structure CallVc (P : Program) (n : Nat) (args : List Value) (w : World) (K : Value → World → Prop) : Prop where
  calls : Calls P n args.toArray w (fun e w' => ∃ v, e = .returned v ∧ K v w')
def vCall (P : Program) (L : Lay) (n : Nat) (args : List Value) (w : World) (K : Value → World → Prop) : Prop :=
  cond (L.fns n) (CallVc P n args w K) False
def vPtr (a : Addr) (n : Nat) (K : Value → Prop) : Prop :=
  match a, n with
  | ⟨b, o, s⟩, 0 => K (.pointer (some ⟨b, o, s⟩))
  | ⟨b, o, _⟩, n => K (.pointer (some ⟨b, o + n, none⟩))

def optEv (f : Fr) (d : Nat) : Option Operand → Option Int
  | none => some d
  | some x => match ev f x with | .int _ n => some n | _ => none

def vSliceS (s : ByteArray) (l h : Option Int) (K : Value → Prop) : Prop :=
  match l, h with
  | some l, some h => (0 ≤ l ∧ l ≤ h ∧ h ≤ s.size) ∧ K (.string (s.extract l.toNat h.toNat))
  | _, _ => False
def vSliceA (a : Option Addr) (cap esz : Nat) (l h m : Option Int) (K : Value → Prop) : Prop :=
  match l, h, m with
  | some l, some h, some m => (0 ≤ l ∧ l ≤ h ∧ h ≤ m ∧ m ≤ cap) ∧ K (.slice (if m = l then a else a.map (·.add (l.toNat * esz))) (h - l).toNat (m - l).toNat)
  | _, _, _ => False

def isPureB : Builtin → Bool
  | .len => true
  | .min => true
  | .max => true
  | .real => true
  | .imag => true
  | .complex => true
  | .cap => true
  | _ => false
/-- Of builtins that only compute. -/
def vPureB (P : Program) (L : Lay) (b : Builtin) (ats : Array Nat) (T : Nat) (cs : Array Bool) (xs : List Value) (K : Value → Prop) : Prop :=
  match b, ats.toList, xs with
  | .len, [t], [x] => match L.ty t, x with
    | .str, .string s => K (.int .i64 s.size)
    | .slice .., .slice _ n _ => K (.int .i64 n)
    | .array n .., _ => K (.int .i64 n)
    | _, x => Pure P (Builtin.len_ ats T #[x]) K
  | .min, _, [.int k x, .int _ y] => K (.int k (if y < x then y else x))
  | .max, _, [.int k x, .int _ y] => K (.int k (if y > x then y else x))
  | .real, _, [.complex k re _] => K (.float k re)
  | .imag, _, [.complex k _ im] => K (.float k im)
  | .complex, _, [.float .f64 re, .float .f64 im] => K (.complex .f64 re im)
  | b, _, xs => ∃ v, (∀ w, (builtin b ats T cs xs.toArray).run P w = .ok (.value v) w) ∧ K v

/-- Operations in which the world plays no part. -/
noncomputable def pOp (P : Program) (L : Lay) (T : Nat) (op : Op) (f : Fr) (K : Value → Prop) : Prop :=
  match op with
  | .move x => force (ev f x) K
  | .assign x => force (ev f x) K
  | .pick c x y => match ev f c with
    | .bool b => Bool.rec (motive := fun _ => Prop) (force (ev f y) K) (force (ev f x) K) b
    | _ => False
  | .binOp op t x y _ => vBin P (L.ty t).isBool op t x y (ev f x) (ev f y) K
  | .unOp op _ x => vUn P op (ev f x) K
  | .convert s d x => match L.ty s, L.ty d, ev f x with
    | .int _, .int k', .int _ n => K (.int k' (k'.wrap n))
    | .str, .str, .string s => K (.string s)
    | _, _, x => Pure P (convert s d x) K
  | .fieldAddr t x i => match L.ty t, ev f x with
    | .struct fs _, .pointer (some a) => match fs[i]? with
      | some (off, size, _) => cond (Nat.beq size 0) False (vPtr a off K)
      | none => False
    | _, _ => False
  | .field t x i => match L.ty t, ev f x with
    | .struct fs _, .agg cs => match fs[i]? with
      | some (off, size, g) => cond g (K (.agg (cs.extract off (off + size)))) (match cs[off]? with
        | some v => force v K
        | none => False)
      | none => False
    | _, _ => False
  | .build t ps => match L.ty t with
    | .struct fs z => pMap f ps.toList fun l => match fillF fs z l with
      | some cs => K (.agg cs.toArray)
      | none => False
    | .array _ _ esz z => pMap f ps.toList fun l => match fillA esz z l with
      | some cs => K (.agg cs.toArray)
      | none => False
    | _ => False
  | .index t x i => match L.ty t, ev f x, ev f i with
    | .str, .string s, .int _ n => (0 ≤ n ∧ n < s.size) ∧ K (.int .u8 ((s.data.toList.getD n.toNat 0).toNat : Int))
    | _, x, i => Pure P (Instr.index t x i) K
  | .indexAddr t x i => match L.ty t, ev f x, ev f i with
    | .slice _ esz, .slice (some a) len _, .int _ n => (0 ≤ n ∧ n < len) ∧ K (.pointer (some (a.add (n.toNat * esz))))
    | .array len _ esz _, .pointer (some a), .int _ n => (0 ≤ n ∧ n < len) ∧ K (.pointer (some (a.add (n.toNat * esz))))
    | _, _, _ => False
  | .slice t x lo hi mx => match L.ty t, ev f x with
    | .str, .string s => match mx with
      | none => vSliceS s (optEv f 0 lo) (optEv f s.size hi) K
      | some _ => False
    | .slice _ esz, .slice a len cap => match mx with
      | none => vSliceA a cap esz (optEv f 0 lo) (optEv f len hi) (some cap) K
      | some _ => False
    | .array n _ esz _, .pointer (some a) => match mx with
      | none => vSliceA (some a) n esz (optEv f 0 lo) (optEv f n hi) (some n) K
      | some _ => False
    | _, _ => False
  | .extract x i => match ev f x with
    | .tuple vs => match vs.toList[i]? with
      | some v => force v K
      | none => False
    | _ => False
  | .makeFunc fn fs cs => vMap f fs.toList fun fs => vMap f cs.toList fun cs => K (.func fn fs.toArray cs.toArray)
  | .nilCheck x => match ev f x with
    | .pointer (some a) => K (.pointer (some a))
    | .func (.func n) fs cs => K (.func (.func n) fs cs)
    | _ => False
  | .call c => match c.callee with
    | .builtin b => cond (isPureB b) (vMap f c.args.toList fun xs => vPureB P L b c.argTypes T (c.args.map fun | .const _ => true | _ => false) xs K) False
    | _ => False
  | .makeInterface t x => Pure P (Instr.makeInterface t (ev f x)) K
  | _ => False

noncomputable def vOp (P : Program) (L : Lay) (T : Nat) (op : Op) (f : Fr) (w : World) (K : Value → World → Prop) : Prop :=
  match op with
  | .load t x => match L.ty t, ev f x with
    | .none, _ => False
    | .array _ _ _ z, .pointer (some a) => ∃ cs : List Value, cs.length = z.length ∧ cellsAt w a cs 0 ∧ K (.agg cs.toArray) w
    | .struct _ z, .pointer (some a) => ∃ cs : List Value, cs.length = z.length ∧ cellsAt w a cs 0 ∧ K (.agg cs.toArray) w
    | _, .pointer (some a) => ∃ v, w.cell? a = some v ∧ K v w
    | _, _ => False
  | .store t x y => match L.ty t, ev f x with
    | .none, _ => False
    | d, .pointer (some a) => cellsK (ev f y) fun cs => cond (Nat.beq cs.length d.size) (mayStore w a cs 0 ∧ ∀ w', Stored w a cs w' → K undef w') False
    | _, _ => False
  | .alloc t => match L.ty t with
    | .none => False
    | d => ∀ g w', New w d.zero t g w' → K (.pointer (some ⟨g, 0, none⟩)) w'
  | .box t x => cellsK (ev f x) fun cs => ∀ g w', New w cs t g w' → K (.pointer (some ⟨g, 0, none⟩)) w'
  | .buildSlice t n ps => match L.ty t with
    | .slice e esz => cond (Nat.ble (n * esz) 16777216 && !Nat.beq esz 0 && !Nat.beq n 0) (
        match L.ty e with
        | .none => False
        | d => cond (Nat.beq d.size esz)
          (pMap f ps.toList fun l => match fillA esz (zeros d.zero n) l with
          | some cs => ∀ g w', New w cs e g w' → K (.slice (some ⟨g, 0, none⟩) n n) w'
          | none => False) False)
      False
    | _ => False
  | .call c => match c.callee with
    | .builtin b => vMap f c.args.toList fun xs => cond (isPureB b)
      (vPureB P L b c.argTypes T (c.args.map fun | .const _ => true | _ => false) xs fun v => K v w)
      (∃ v w', (builtin b c.argTypes T (c.args.map fun | .const _ => true | _ => false) xs.toArray).run P w = .ok (.value v) w' ∧ K v w')
    | .value fo => match ev f fo with
      | .func (.func n) first captured => vMap f c.args.toList fun xs => match first.toList, captured.toList with
        | [], [] => vCall P L n xs w K
        | fs, cs => vCall P L n (fs ++ xs ++ cs) w K
      | _ => False
    | .invoke .. => False
  | .convert s d x => match L.ty s, L.ty d, ev f x with
    | .int _, .int k', .int _ n => K (.int k' (k'.wrap n)) w
    | .str, .str, .string s => K (.string s) w
    | _, _, x => Runs P (convert s d x) w K
  | .makeMap t r => Runs P (Instr.makeMap t (r.map (ev f))) w K
  | .makeSlice t l c => Runs P (Instr.makeSlice t (ev f l) (ev f c)) w K
  | .lookup t x i ok => Runs P (Instr.lookup t (ev f x) (ev f i) ok) w K
  | .mapUpdate t m k x => ∃ w', (Instr.mapUpdate t (ev f m) (ev f k) (ev f x)).run P w = .ok () w' ∧ K undef w'
  | .insert t m k x => ∃ w', (Instr.mapUpdate t (ev f m) (ev f k) (ev f x)).run P w = .ok () w' ∧ K undef w'
  | op => pOp P L T op f fun v => K v w

/-- The slot and the truth that a guard looks at. -/
def guardOf (ops0 : List Oper) (f : Fr) (j : Nat) : Option (Nat × Bool) :=
  match ops0[j]? with
  | some o => match o.dst with
    | some t => match f t with
      | .bool b => some (t, b)
      | _ => none
    | none => none
  | none => none

def updK (f : Fr) (d : Option Nat) (v : Value) (K : Fr → Prop) : Prop := match d with | some t => K (upd f t v) | none => K f
noncomputable def vOps (P : Program) (L : Lay) (ops0 : List Oper) (l : List Oper) : Fr → World → (Fr → World → Prop) → Prop :=
  List.rec (motive := fun _ => Fr → World → (Fr → World → Prop) → Prop) (fun f w K => K f w)
    (fun o _ ih f w K => match o with
      | ⟨dst, op, T, _, _, none⟩ => vOp P L T op f w fun v w' => updK f dst v fun f' => ih f' w' K
      | ⟨dst, op, T, _, _, some (j, want)⟩ => match guardOf ops0 f j with
        | some (t, b) => Bool.rec (motive := fun _ => Prop)
            (cond want (updK (upd f t (.bool false)) dst undef fun f' => ih f' w K)
             (vOp P L T op (upd f t (.bool false)) w fun v w' => updK (upd f t (.bool false)) dst v fun f' => ih f' w' K))
            (cond want (vOp P L T op (upd f t (.bool true)) w fun v w' => updK (upd f t (.bool true)) dst v fun f' => ih f' w' K)
             (updK (upd f t (.bool true)) dst undef fun f' => ih f' w K)) b
        | none => updK f dst undef fun f' => ih f' w K) l

def lk : List (Nat × Value) → Nat → Option Value
  | [], _ => none
  | (s, v) :: r, t => bif Nat.beq t s then some v else lk r t
def mk (l : List (Nat × Value)) (u : Fr) : Fr := fun t => match lk l t with | some v => v | none => u t
def fits (f : Fr) : List (Nat × Value) → Prop
  | [] => True
  | (t, v) :: r => f t = v ∧ fits f r

/-- A region that draws its order: said of the library's own wp. -/
def Agree (n : Nat) (a : Act) (f : Fr) : Prop := a.defers = [] ∧ a.tmps.size = n ∧ ∀ t, a.tmps.getD t undef = f t
def dstsOk (n : Nat) : List Oper → Bool
  | [] => true
  | o :: r => (match o.dst with | some t => Nat.blt t n | none => true) && dstsOk n r
structure Drawn (P : Program) (id : Nat) (ops : Array Oper) (f : Fr) (w : World) (K : Fr → World → Prop) : Prop where
  wp : ∀ (n : Nat) (a : Act), dstsOk n ops.toList = true → Agree n a f → (Code.region id ops true).wp P (fun e a' w' => e = .normal ∧ ∃ f', Agree n a' f' ∧ K f' w') a w

def seqK (b : Fr → World → (Exit → Fr → World → Prop) → Prop) (K : Exit → Fr → World → Prop) (e : Exit) (f : Fr) (w : World) : Prop :=
  match e with
  | .normal => b f w K
  | e => K e f w
def blockK (id : Nat) (K : Exit → Fr → World → Prop) (e : Exit) (f : Fr) (w : World) : Prop :=
  match e with
  | .exit i => cond (Nat.beq i id) (K .normal f w) (K (.exit i) f w)
  | e => K e f w
def loopK {α : Type} (st : α → List (Nat × Value)) (inv : α → World → Prop) (μ : α → World → Nat) (x : α) (w0 : World) (K : Exit → Fr → World → Prop) (e : Exit) (f : Fr) (w : World) : Prop :=
  match e with
  | .normal => ∃ x', fits f (st x') ∧ inv x' w ∧ μ x' w < μ x w0
  | e => K e f w
noncomputable def vCode (P : Program) (L : Lay) (c : Code) : Fr → World → (Exit → Fr → World → Prop) → Prop :=
  Code.rec (motive := fun _ => Fr → World → (Exit → Fr → World → Prop) → Prop)
    (fun f w K => K .normal f w)
    (fun id ops d f w K => cond d (Drawn P id ops f w (K .normal)) (vOps P L ops.toList ops.toList f w (K .normal)))
    (fun _ _ iha ihb f w K => iha f w (seqK ihb K))
    (fun c _ _ iha ihb f w K => match ev f c with
      | .bool t => Bool.rec (motive := fun _ => Prop) (ihb f w K) (iha f w K) t
      | _ => False)
    (fun id _ ih f w K => ih f w (blockK id K))
    (fun _ ih f w K => ∃ (α : Type) (st : α → List (Nat × Value)) (inv : α → World → Prop) (μ : α → World → Nat) (x0 : α),
      fits f (st x0) ∧ inv x0 w ∧ ∀ (x : α) (w' : World) (u : Fr), inv x w' → ih (mk (st x) u) w' (loopK st inv μ x w' K))
    (fun _ _ _ _ _ _ _ _ _ => False)
    (fun id f w K => K (.exit id) f w)
    (fun _ _ _ _ _ => False)
    (fun _ f w K => K .normal f w)
    (fun _ _ _ _ => False)
    (fun f w K => K .ret f w)
    (fun _ _ _ _ => False) c

def vRes (L : Lay) (f : Fr) (w : World) : List ResultVar → List Value → (List Value → Prop) → Prop
  | [], vs, K => K vs.reverse
  | .tmp t :: r, vs, K => force (f t) fun v => vRes L f w r (v :: vs) K
  | .cell a t :: r, vs, K => match L.ty t, f a with
    | .none, _ => False
    | .array _ _ _ z, .pointer (some p) => ∃ cs : List Value, cs.length = z.length ∧ cellsAt w p cs 0 ∧ vRes L f w r (.agg cs.toArray :: vs) K
    | .struct _ z, .pointer (some p) => ∃ cs : List Value, cs.length = z.length ∧ cellsAt w p cs 0 ∧ vRes L f w r (.agg cs.toArray :: vs) K
    | _, .pointer (some p) => ∃ v, w.cell? p = some v ∧ vRes L f w r (v :: vs) K
    | _, _ => False
def oneOr : List Value → Value
  | [v] => v
  | vs => .tuple vs.toArray
def fnK (L : Lay) (rs : Array ResultVar) (R : Ending → World → Prop) (e : Exit) (f : Fr) (w : World) : Prop :=
  match e with
  | .normal => vRes L f w rs.toList [] fun vs => R (.returned (oneOr vs)) w
  | .ret => vRes L f w rs.toList [] fun vs => R (.returned (oneOr vs)) w
  | _ => False
def initF (args : List Value) : Fr := fun t => args.getD t undef
def codeOk (n : Nat) : Code → Bool
  | .region _ ops _ => dstsOk n ops.toList
  | .seq a b => codeOk n a && codeOk n b
  | .cond _ a b => codeOk n a && codeOk n b
  | .block _ b => codeOk n b
  | .loop b => codeOk n b
  | _ => true
end Go.Vc
