import Derived.Test.YtefdfaeieekioaaGreatDoorQ13
import Derived.Deep.AppendSrc
import Derived.Deep.Upon
import Derived.MapKept
import Derived.Maps.RangeRun
import Derived.Lib.ConvBytes
import Derived.Lib.UnsafeStr
import Derived.Laws.MakeOwn
import Derived.Lib.SliceRun
set_option maxRecDepth 100000
set_option maxHeartbeats 40000000
set_option linter.unusedVariables false
set_option linter.unusedSimpArgs false
noncomputable section
namespace Go.Vx
open Go Go.Vc Go.RowKit
def fE (x:EB) (K:EB->Bool):Bool:=match x with
 | .l (.int k n)=>fI n fun n=>K (.l (.int k n))
 | .l (.string s)=>fL s.data.toList fun l=>K (.l (.string (bytes l)))
 | .l (.bool b)=>Bool.rec (K (.l (.bool false))) (K (.l (.bool true))) b
 | .rg k lo hi=>fI lo fun lo=>fI hi fun hi=>K (.rg k lo hi)
 | .p N o=>fN o fun o=>K (.p N o)
 | .s N o n (.k c)=>fN o fun o=>fN n fun n=>fN c fun c=>K (.s N o n (.k c))
 | .s N o n (.j c b)=>fN o fun o=>fN n fun n=>fN c fun c=>fN b fun b=>K (.s N o n (.j c b))
 | .s N o n (.z c)=>fN o fun o=>fN c fun c=>K (.s N o n (.z c))
 | x=>K x
def fV (v:EV) (K:EV->Bool):Bool:=match v with
 | .o x=>fE x fun x=>K (.o x)
 | .a xs=>fL xs fun xs=>K (.a xs)
 | .t ys=>fL ys fun ys=>K (.t ys)
theorem C1O (x:EB) (K:EB->Bool):fE x K=K x:=by
 unfold fE;split
 ·rw [B8g]
 ·rw [A0q];rfl
 ·rename_i b;cases b<;>rfl
 ·rw [B8g,B8g]
 ·rw [A0W]
 ·rw [A0W,A0W,A0W]
 ·rw [A0W,A0W,A0W,A0W]
 ·rw [A0W,A0W]
 ·rfl
theorem A2W (v:EV) (K:EV->Bool):fV v K=K v:=by
 unfold fV;split
 ·rw [C1O]
 ·rw [A0q]
 ·rw [A0q]
structure Mach where
 P:Program
 L:Lay
 Q:Eqs P
 late:Nat->Nat->Nat->Bool
 prim:Nat->List EV->Hp->Option EV
abbrev Kt:=EV->Hp->Bool
def xLd (d:TD) (xs:List EB) (o:Nat):Option EV:=match d with
 | .none=>none
 | d=>cond d.isAgg (cond (Nat.ble (Nat.add o d.size) xs.length) (some (.a ((xs.drop o).take d.size))) none) (match xs[o]? with
  | some x=>some (.o x)
  | none=>none)
def rowOf (H:Hp) (N:Nat):Option (Nat × Nat × List EB):=match H.t.get N with
 | some (.c T sz xs)=>some (T,sz,xs)
 | _=>none
def rowR (H:Hp) (N:Nat):Option (List EB):=match H.t.get N with
 | some (.c _ _ xs)=>some xs
 | some (.r xs)=>some xs
 | _=>none
def A8f (M:Mach) (t:Nat) (v:EV) (H:Hp):Option EV:=match v with
 | .o (.p N o)=>match rowR H N with
  | some xs=>xLd (M.L.ty t) xs o
  | none=>none
 | _=>none
def A9t (M:Mach) (t:Nat) (v u:EV) (H:Hp) (K:Kt):Bool:=match v with
 | .o (.p N o)=>match rowOf H N,A4v u,M.L.ty t with
  | some (T,sz,xs),some ys,d=>cond (B7I ys&&Nat.beq ys.length d.size&&Nat.ble (Nat.add o ys.length) xs.length&&not (Nat.beq d.size 0)) (fL (A9o xs o ys) fun xs=>H.t.setK N (.c T sz xs) fun t=>K (lit undef) ⟨t,H.n⟩) false
  | _,_,_=>false
 | _=>false
def C0t (N n:Nat) (E:Ent) (H:Hp) (K:Nat->Hp->Bool):Bool:=match H.t.get N with
 | none=>H.t.setK N E fun t=>K N ⟨t,n⟩
 | some _=>false
def B7J (nm:Option Nat) (E:Ent) (H:Hp) (K:Nat->Hp->Bool):Bool:=match nm with
 | some N=>C0t N H.n E H K
 | none=>fN (Nat.succ H.n) fun n=>C0t H.n n E H K
def A5t (nm:Option Nat) (T sz:Nat) (xs:List EB) (H:Hp) (K:Nat->Hp->Bool):Bool:=fL xs fun xs=>B7J nm (.c T sz xs) H K
def B1A (P:Program) (T:Nat):Bool:=match P.underlying T with
 | some .string=>true
 | _=>false
def C1P (P:Program) (t e esz:Nat):Bool:=(match P.underlying t with
  | some (.slice e')=>Nat.beq e e'
  | _=>false)&&(match P.info? e with
  | some i=>Nat.beq i.size esz&&Nat.ble i.bytes 4096&&(match i.zero with
   | some z=>Nat.beq z.cells.size esz
   | none=>false)
  | none=>false)
def B39 (P:Program) (tx:Nat) (x:EV) (esz:Nat) (H:Hp):Option (Nat × List EB):=match x with
 | .o (.l (.slice none n _))=>cond (Nat.beq n 0&&B7G P tx) (some (0,[])) none
 | .o (.l (.string s))=>cond (Nat.beq esz 1&&B1A P tx) (some (s.data.toList.length,s.data.toList.map fun c=>.l (.int .u8 (Int.ofNat c.toNat)))) none
 | .o (.s N o m c)=>cond (B7G P tx) (cond (Nat.beq m 0) (some (0,[])) (match c,rowR H N with
  | .z _,_=>none
  | _,some xs=>cond (Nat.ble (Nat.add o (Nat.mul m esz)) xs.length) (some (m,(xs.drop o).take (Nat.mul m esz))) none
  | _,none=>none)) none
 | _=>none
def B8v (T sz e esz N o n m:Nat) (c:EC) (xs news:List EB) (H:Hp) (K:Kt):Bool:=match c with
 | .k c=>cond (Nat.ble (Nat.add n m) c)
   (cond (Nat.ble (Nat.add o (Nat.mul (Nat.add n m) esz)) xs.length) (fL (A9o xs (Nat.add o (Nat.mul n esz)) news) fun xs=>H.t.setK N (.c T sz xs) fun t=>K (.o (.s N o (Nat.add n m) (.k c))) ⟨t,H.n⟩) false)
   (cond (Nat.ble (Nat.add o (Nat.mul n esz)) xs.length) (A5t none e esz (((xs.drop o).take (Nat.mul n esz))++news) H fun N H=>K (.o (.s N 0 (Nat.add n m) (.j 0 (Nat.add n m)))) H) false)
 | .j d b=>cond (Nat.beq o (Nat.mul d esz)&&Nat.beq sz esz&&Nat.beq T e)
   (cond (Nat.ble (Nat.add o (Nat.mul (Nat.add n m) esz)) xs.length) (fL (A9o xs (Nat.add o (Nat.mul n esz)) news) fun xs=>H.t.setK N (.c T sz xs) fun t=>K (.o (.s N o (Nat.add n m) (.j d (cond (Nat.ble (Nat.add n m) b) b (Nat.add n m))))) ⟨t,H.n⟩)
    (cond (Nat.beq (Nat.add o (Nat.mul n esz)) xs.length) (H.t.setK N .d fun t=>A5t none e esz (xs.drop o++news) ⟨t,H.n⟩ fun N H=>K (.o (.s N 0 (Nat.add n m) (.j 0 (Nat.add n m)))) H) false)) false
 | .z d=>cond (Nat.beq o (Nat.mul d esz)&&Nat.beq sz esz&&Nat.beq T e&&Nat.beq o xs.length&&Nat.beq n 0) (H.t.setK N .d fun t=>A5t none e esz news ⟨t,H.n⟩ fun N H=>K (.o (.s N 0 m (.j 0 m))) H) false
def A3x (e esz:Nat) (s:EV) (m:Nat) (news:List EB) (H:Hp) (K:Kt):Bool:=match s with
 | .o (.l (.slice none n c))=>cond (Nat.beq n 0&&Nat.beq c 0) (cond (Nat.beq m 0) (K s H) (cond (B7I news&&Nat.ble m 10000&&not (Nat.beq esz 0)) (A5t none e esz news H fun N H=>K (.o (.s N 0 m (.j 0 m))) H) false)) false
 | .o (.s N o n c)=>cond (Nat.beq m 0) (K s H) (cond (B7I news&&Nat.ble m 10000&&not (Nat.beq esz 0)&&Nat.ble n 10000) (match rowOf H N with
  | some (T,sz,xs)=>B8v T sz e esz N o n m c xs news H K
  | none=>false) false)
 | _=>false
def elemOf (d:TD):Option (Nat × Nat):=match d with
 | .slice e esz=>some (e,esz)
 | _=>none
def B9R {α:Type} (R:α->Bool) (l:List α):Bool:=List.rec (motive:=fun _=>Bool) true (fun x _ ih=>and (R x) ih) l
def C0u (P:Program) (t:Nat):Option (Nat × TypeDesc × Nat):=match P.underlying t with
 | some (.map k e)=>match P.underlying k with
  | some d=>some (k,d,e)
  | none=>none
 | _=>none
def B8w (d:TypeDesc) (k:Value):Bool:=match d,k with
 | .string,.string _=>true
 | .int q,.int q' _=>K7 q' q
 | _,_=>false
def C0v (d:TypeDesc) (a b:Value):Option Bool:=match d,a,b with
 | .string,.string a,.string b=>some (eqL a.data.toList b.data.toList)
 | .int _,.int q a,.int q' b=>cond (K7 q q') (some (eqI a b)) none
 | _,_,_=>none
def posK (d:TypeDesc) (k:Value) (es:List (Value × EV × Nat)):Nat->Option (Option Nat):=
 List.rec (motive:=fun _=>Nat->Option (Option Nat)) (fun _=>some none) (fun x _ ih i=>match C0v d k x.1 with
  | some true=>some (some i)
  | some false=>ih (Nat.succ i)
  | none=>none) es
def mapOf (M:Mach) (t:Nat) (m k:EV) (H:Hp):Option (Nat × Nat × Value × List (Value × EV × Nat) × Nat × Option Nat):=match C0u M.P t,m,k with
 | some (_,d,e),.o (.m N),.o (.l k)=>cond (B8w d k) (match H.t.get N with
  | some (.m es clock)=>match posK d k es 0 with
   | some j=>some (N,e,k,es,clock,j)
   | none=>none
  | _=>none) none
 | _,_,_=>none
def C0J (d:TD):Option EV:=match d with
 | .none=>none
 | .array _ _ _ z=>some (.a (z.map .l))
 | .struct _ z=>some (.a (z.map .l))
 | d=>match d.zero with
  | [z]=>some (lit z)
  | _=>none
def B6D (v:EV):Option (Bool × List EB):=match v with
 | .o x=>some (false,[x])
 | .a xs=>some (true,xs)
 | .t _=>none
def A5u (M:Mach) (t:Nat) (m k:EV) (ok:Bool) (H:Hp) (K:Kt):Bool:=match mapOf M t m k H with
 | some (N,e,k,es,clock,j)=>match (match j with
   | some i=>match es[i]? with
    | some x=>some x.2.1
    | none=>none
   | none=>C0J (M.L.ty e)) with
  | some v=>cond ok (match B6D v with
   | some p=>fV (.t [p,(false,[.l (.bool j.isSome)])]) fun v=>K v H
   | none=>false) (fV v fun v=>K v H)
  | none=>false
 | none=>false
def A17 (N:Nat) (es:List (Value × EV × Nat)) (clock:Nat) (H:Hp) (K:Kt):Bool:=fL es fun es=>fN clock fun clock=>H.t.setK N (.m es clock) fun t=>K (lit undef) ⟨t,H.n⟩
def A5v (M:Mach) (t:Nat) (m k v:EV) (H:Hp) (K:Kt):Bool:=match mapOf M t m k H with
 | some (N,e,k,es,clock,j)=>match j with
  | some i=>match es[i]? with
   | some x=>A17 N (es.set i (k,v,x.2.2)) clock H K
   | none=>false
  | none=>A17 N (es++[(k,v,clock)]) (Nat.succ clock) H K
 | none=>false
def A8g (M:Mach) (t:Nat) (m k:EV) (H:Hp) (K:Kt):Bool:=match mapOf M t m k H with
 | some (N,e,k,es,clock,j)=>match j with
  | some i=>A17 N (es.eraseIdx i) clock H K
  | none=>A17 N es clock H K
 | none=>false
def A9u (M:Mach) (nm:Option Nat) (t:Nat) (m:EV) (H:Hp) (K:Kt):Bool:=match C0u M.P t,m with
 | some _,.o (.m N)=>match H.t.get N with
  | some (.m es clock)=>B7J nm (.i N clock [] clock) H fun N H=>K (.o (.p N 0)) H
  | _=>false
 | _,_=>false
def C0K (n:Nat) (l:List Nat):Bool:=List.rec (motive:=fun _=>Bool) false (fun x _ ih=>or (Nat.beq n x) ih) l
def B6E (it:EV) (s:Bool) (H:Hp) (K:Kt):Bool:=match it,s with
 | .o (.p N 0),false=>match H.t.get N with
  | some (.i M since seen c0)=>match H.t.get M with
   | some (.m es clock)=>cond (B9R (fun x=>Nat.blt x.2.2 since) es&&Nat.ble since c0) (match es.filter fun x=>not (C0K x.2.2 seen) with
    | []=>K (.t [(false,[.l (.bool false)])]) H
    | [x]=>match B6D x.2.1 with
     | some p=>fL (seen++[x.2.2]) fun seen=>H.t.setK N (.i M since seen clock) fun t=>K (.t [(false,[.l (.bool true)]),(false,[.l x.1]),p]) ⟨t,H.n⟩
     | none=>false
    | _=>false) false
   | _=>false
  | _=>false
 | _,_=>false
def A9v (it:EV) (H:Hp) (K:Kt):Bool:=match it with
 | .o (.p N 0)=>match H.t.get N with
  | some (.i M since seen c0)=>match H.t.get M,seen.getLast? with
   | some (.m es clock),some b=>cond (Nat.beq clock c0) (match es.filter fun x=>Nat.beq x.2.2 b with
    | [x]=>match B6D x.2.1 with
     | some p=>fV (.t [(false,[.l x.1]),p]) fun v=>K v H
     | none=>false
    | _=>false) false
   | _,_=>false
  | _=>false
 | _=>false
def A5w (P:Program) (t:Nat):Option Nat:=match P.underlying t with
 | some (.slice e)=>match P.underlying e with
  | some (.int .u8)=>some e
  | _=>none
 | _=>none
def B6F (x:EB):Option UInt8:=match x with
 | .l (.int .u8 (.ofNat n))=>cond (Nat.blt n 256) (some (UInt8.ofNat n)) none
 | _=>none
def A7T (xs:List EB):Option (List UInt8):=List.rec (motive:=fun _=>Option (List UInt8)) (some []) (fun x _ ih=>match B6F x,ih with
 | some b,some r=>some (b::r)
 | _,_=>none) xs
def sliceB (v:EV) (H:Hp):Option (List UInt8):=match v with
 | .o (.l (.slice none n _))=>cond (Nat.beq n 0) (some []) none
 | .o (.s N o n c)=>cond (Nat.beq n 0) (some []) (match c,rowR H N with
  | .z _,_=>none
  | _,some xs=>cond (Nat.ble (Nat.add o n) xs.length) (A7T ((xs.drop o).take n)) none
  | _,none=>none)
 | _=>none
def B4A (P:Program) (t:Nat):Option Nat:=match P.underlying t with
 | some (.pointer e)=>some e
 | _=>none
def B6G (P:Program) (t:Nat):Bool:=match P.underlying t with
 | some .unsafePointer=>true
 | _=>false
def B7K (P:Program) (t:Nat):Bool:=match P.info? t with
 | some j=>not (Nat.beq j.size 0)
 | none=>false
def B7L (c:EC):Bool:=match c with
 | .k c=>not (Nat.beq c 0)
 | .j _ b=>not (Nat.beq b 0)
 | .z _=>false
def B6H (M:Mach) (nm:Option Nat) (s d:Nat) (v:EV) (H:Hp) (K:Kt):Bool:=match v with
 | .o (.l (.string b))=>match A5w M.P d with
  | some e=>cond (B1A M.P s&&Nat.ble b.data.toList.length 1000000) (fL (b.data.toList.map fun c=>.l (.int .u8 (.ofNat c.toNat))) fun xs=>B7J nm (.r xs) H fun N H=>fN xs.length fun n=>K (.o (.s N 0 n (.j 0 n))) H) false
  | none=>false
 | .o (.p N o)=>match H.t.get N with
  | some (.c T 0 xs)=>cond (Nat.blt o xs.length) (match B4A M.P s,B4A M.P d with
   | some t,none=>cond (B6G M.P d&&B7K M.P t) (K v H) false
   | none,some u=>cond (B6G M.P s&&(M.P.info? u).isSome&&liesAt M.P M.P.depth T (xs.length / M.P.cellsOf T) o u 1) (K v H) false
   | _,_=>false) false
  | _=>false
 | v=>cond (B1A M.P d) (match A5w M.P s,sliceB v H with
  | some _,some l=>fL l fun l=>K (.o (.l (.string (bytes l)))) H
  | _,_=>false) false
def B4B (L:Lay) (s d:Nat):Bool:=match L.ty s,L.ty d with
 | .int _,.int _=>true
 | .str,.str=>true
 | _,_=>false
def B8x (v:EV) (H:Hp) (K:Kt):Bool:=match v with
 | .o (.l (.slice none _ _))=>K (lit (.pointer none)) H
 | .o (.s N o n c)=>cond (B7L c) (K (.o (.p N o)) H) false
 | _=>false
def B8y (M:Mach) (pt:Nat) (p:EV) (n:Int) (H:Hp) (K:Kt):Bool:=match n with
 | .ofNat n=>cond (Nat.beq n 0) (match p with
   | .o (.l (.pointer none))=>K (lit (.string (bytes []))) H
   | .o (.p _ _)=>K (lit (.string (bytes []))) H
   | _=>false) (match p with
  | .o (.p N o)=>match rowOf H N,B4A M.P pt with
   | some (T,sz,xs),some e=>cond (Nat.beq T e&&Nat.beq (M.P.cellsOf e) 1&&not (Nat.beq sz 0)&&Nat.ble (Nat.add o n) xs.length&&Nat.ble n 1000000) (match A7T ((xs.drop o).take n) with
    | some l=>fL l fun l=>H.t.setK N (.r xs) fun t=>K (lit (.string (bytes l))) ⟨t,H.n⟩
    | none=>false) false
   | _,_=>false
  | _=>false)
 | _=>false
def B6I (M:Mach) (nm:Option Nat) (t:Nat) (l c:EV) (H:Hp) (K:Kt):Bool:=match l,c,M.L.ty t with
 | .o (.l (.int _ (.ofNat n))),.o (.l (.int _ (.ofNat c))),.slice e esz=>match M.P.info? e,(M.L.ty e).isAgg,(M.L.ty e).zero with
  | some i,false,[z]=>cond (Nat.ble n c&&Nat.ble c 10000&&Nat.beq esz 1&&Nat.ble i.bytes 4096) (A5t nm e 0 (List.replicate c (.l z)) H fun N H=>K (.o (.s N 0 n (.k c))) H) false
  | _,_,_=>false
 | _,_,_=>false
def xBu (M:Mach) (b:Builtin) (ats:List Nat) (xs:List EV) (H:Hp) (K:Kt):Bool:=match b,ats,xs with
 | .append,[t,tx],[s,x]=>match elemOf (M.L.ty t) with
  | some (e,esz)=>cond (C1P M.P t e esz) (match B39 M.P tx x esz H with
   | some (m,news)=>fN m fun m=>fL news fun news=>A3x e esz s m news H fun v H=>fV v fun v=>K v H
   | none=>false) false
  | none=>false
 | .delete,[t,_],[m,k]=>A8g M t m k H K
 | .unsafeSliceData,[_],[v]=>B8x v H K
 | .unsafeString,[pt,_],[p,.o (.l (.int .i64 n))]=>B8y M pt p n H K
 | .clear,[t],[.o (.s N o n c)]=>match elemOf (M.L.ty t),rowOf H N with
  | some (e,esz),some (T,sz,xs)=>match (M.L.ty e).zero with
   | [z]=>cond (Nat.beq esz 1&&not (M.L.ty e).isAgg&&not (Nat.beq n 0)&&z.oneCell'&&Nat.ble (Nat.add o n) xs.length&&(match c with | .z _=>false | _=>true)) (fL (A9o xs o (List.replicate n (.l z))) fun xs=>H.t.setK N (.c T sz xs) fun t=>K (lit undef) ⟨t,H.n⟩) false
   | _=>false
  | _,_=>false
 | _,_,_=>false
def B8z (M:Mach) (call:Nat->List EV->Hp->Kt->Bool) (nm:Option Nat) (T:Nat) (F:Tr EV) (H:Hp) (K:Kt) (t:Nat) (x:Operand):Bool:=match xEv F x with
  | some v=>match A8f M t v H with
   | some u=>fV u fun u=>K u H
   | none=>false
  | none=>false
def B6J (M:Mach) (call:Nat->List EV->Hp->Kt->Bool) (nm:Option Nat) (T:Nat) (F:Tr EV) (H:Hp) (K:Kt) (t:Nat) (x:Operand) (y:Operand):Bool:=match xEv F x,xEv F y with
  | some v,some u=>A9t M t v u H K
  | _,_=>false
def B6K (M:Mach) (call:Nat->List EV->Hp->Kt->Bool) (nm:Option Nat) (T:Nat) (F:Tr EV) (H:Hp) (K:Kt) (t:Nat):Bool:=match M.L.ty t with
  | .none=>false
  | d=>A5t nm t 0 (d.zero.map .l) H fun N H=>K (.o (.p N 0)) H
def C0L (M:Mach) (call:Nat->List EV->Hp->Kt->Bool) (nm:Option Nat) (T:Nat) (F:Tr EV) (H:Hp) (K:Kt) (t:Nat) (x:Operand):Bool:=match xEv F x with
  | some v=>match A4v v with
   | some ys=>A5t nm t 0 ys H fun N H=>K (.o (.p N 0)) H
   | none=>false
  | none=>false
def A5x (M:Mach) (call:Nat->List EV->Hp->Kt->Bool) (nm:Option Nat) (T:Nat) (F:Tr EV) (H:Hp) (K:Kt) (t:Nat) (n:Nat) (ps:Array (Nat × Operand)):Bool:=match elemOf (M.L.ty t) with
  | some (e,esz)=>cond (Nat.beq n 0&&A2s ps.toList) (A5t nm e 0 [] H fun N H=>K (.o (.s N 0 0 (.k 0))) H)
   (cond (Nat.ble (Nat.mul n esz) 16777216&&!Nat.beq esz 0&&!Nat.beq n 0&&Nat.beq (M.L.ty e).size esz) (match xPs F ps.toList,M.L.ty e with
    | some l,.none=>false
    | some l,d=>match A4w esz l (V6 d.zero n |>.map .l) with
     | some cs=>A5t nm e 0 cs H fun N H=>K (.o (.s N 0 n (.k n))) H
     | none=>false
    | none,_=>false) false)
  | none=>false
def B80 (M:Mach) (call:Nat->List EV->Hp->Kt->Bool) (nm:Option Nat) (T:Nat) (F:Tr EV) (H:Hp) (K:Kt) (c:Go.Call):Bool:=match B9P F c.args.toList with
  | some xs=>match c.callee with
   | .builtin b=>cond (P7 b) (match A3u M.L b c.argTypes.toList xs with
    | some v=>fV v fun v=>K v H
    | none=>false) (xBu M b c.argTypes.toList xs H K)
   | .value fo=>match xEv F fo with
    | some (.o (.f g cs))=>call g (xs++cs.map fun c=>.o (.p c.1 c.2)) H fun v H=>K v H
    | _=>false
   | .invoke ..=>false
  | none=>false
def B1B (M:Mach) (call:Nat->List EV->Hp->Kt->Bool) (nm:Option Nat) (T:Nat) (F:Tr EV) (H:Hp) (K:Kt) (s:Nat) (d:Nat) (x:Operand):Bool:=cond (B4B M.L s d) (match xP M.P M.L M.Q T (.convert s d x) F with
  | some v=>fV v fun v=>K v H
  | none=>false) (match xEv F x with
  | some v=>B6H M nm s d v H K
  | none=>false)
def A7U (M:Mach) (call:Nat->List EV->Hp->Kt->Bool) (nm:Option Nat) (T:Nat) (F:Tr EV) (H:Hp) (K:Kt) (t:Nat) (l:Operand) (c:Operand):Bool:=match xEv F l,xEv F c with
  | some l,some c=>B6I M nm t l c H K
  | _,_=>false
def B4C (M:Mach) (call:Nat->List EV->Hp->Kt->Bool) (nm:Option Nat) (T:Nat) (F:Tr EV) (H:Hp) (K:Kt) (t:Nat) (x:Operand) (y:Operand) (ok:Bool):Bool:=match xEv F x,xEv F y with
  | some m,some k=>A5u M t m k ok H K
  | _,_=>false
def A7V (M:Mach) (call:Nat->List EV->Hp->Kt->Bool) (nm:Option Nat) (T:Nat) (F:Tr EV) (H:Hp) (K:Kt) (t:Nat) (x:Operand) (y:Operand) (z:Operand):Bool:=match xEv F x,xEv F y,xEv F z with
  | some m,some k,some v=>A5v M t m k v H K
  | _,_,_=>false
def B6L (M:Mach) (call:Nat->List EV->Hp->Kt->Bool) (nm:Option Nat) (T:Nat) (F:Tr EV) (H:Hp) (K:Kt) (t:Nat) (x:Operand):Bool:=match xEv F x with
  | some m=>A9u M nm t m H K
  | none=>false
def B81 (M:Mach) (call:Nat->List EV->Hp->Kt->Bool) (nm:Option Nat) (T:Nat) (F:Tr EV) (H:Hp) (K:Kt) (x:Operand) (s:Bool):Bool:=match xEv F x with
  | some it=>B6E it s H K
  | none=>false
def B6M (M:Mach) (call:Nat->List EV->Hp->Kt->Bool) (nm:Option Nat) (T:Nat) (F:Tr EV) (H:Hp) (K:Kt) (x:Operand):Bool:=match xEv F x with
  | some it=>A9v it H K
  | none=>false
def xO (M:Mach) (call:Nat->List EV->Hp->Kt->Bool) (nm:Option Nat) (T:Nat) (op:Op) (F:Tr EV) (H:Hp) (K:Kt):Bool:=match op with
 | .load t x=>B8z M call nm T F H K t x
 | .store t x y=>B6J M call nm T F H K t x y
 | .alloc t=>B6K M call nm T F H K t
 | .box t x=>C0L M call nm T F H K t x
 | .buildSlice t n ps=>A5x M call nm T F H K t n ps
 | .call c=>B80 M call nm T F H K c
 | .convert s d x=>B1B M call nm T F H K s d x
 | .makeSlice t l c=>A7U M call nm T F H K t l c
 | .makeMap t none=>B7J nm (.m [] 0) H fun N H=>K (.o (.m N)) H
 | .lookup t x y ok=>B4C M call nm T F H K t x y ok
 | .mapUpdate t x y z=>A7V M call nm T F H K t x y z
 | .range t x=>B6L M call nm T F H K t x
 | .next x s=>B81 M call nm T F H K x s
 | .entry x=>B6M M call nm T F H K x
 | op=>match xP M.P M.L M.Q T op F with
  | some v=>fV v fun v=>K v H
  | none=>false
def B82 (F:Tr EV) (d:Option Nat) (v:EV) (K:Tr EV->Bool):Bool:=match d with
 | some t=>F.setK t v K
 | none=>K F
def A4x (ops:List Oper) (F:Tr EV) (g:Option (Nat × Bool)):Option Bool:=match g with
 | none=>some true
 | some (j,want)=>match ops[j]? with
  | some o=>match o.dst with
   | some t=>match F.get t with
    | some (.o (.l (.bool b)))=>some (b==want)
    | some (.o (.l (.tuple _)))=>some false
    | _=>none
   | none=>some false
  | none=>some false
def A7W (M:Mach) (call:Nat->List EV->Hp->Kt->Bool) (nm:Option Nat) (ops:List Oper) (o:Oper) (F:Tr EV) (H:Hp) (K:Tr EV->Hp->Bool):Bool:=match A4x ops F o.guard with
 | some true=>xO M call nm o.type o.op F H fun v H=>B82 F o.dst v fun F=>K F H
 | some false=>B82 F o.dst (lit undef) fun F=>K F H
 | none=>false
def C1Q (M:Mach) (call:Nat->List EV->Hp->Kt->Bool) (ops:List Oper) (l:List Oper):Tr EV->Hp->(Tr EV->Hp->Bool)->Bool:=
 List.rec (motive:=fun _=>Tr EV->Hp->(Tr EV->Hp->Bool)->Bool) (fun F H K=>K F H) (fun o _ ih F H K=>A7W M call none ops o F H fun F H=>ih F H K) l
def B4D (L:Lay) (op:Op):Bool:=match op with
 | .move _ | .assign _ | .pick .. | .binOp .. | .unOp .. | .fieldAddr .. | .field .. | .build .. | .index .. | .indexAddr .. | .slice .. | .extract .. | .makeFunc .. | .nilCheck _=>true
 | .call c=>match c.callee with
  | .builtin b=>P7 b
  | _=>false
 | .convert s d _=>B4B L s d
 | _=>false
def C0M (op:Op):Bool:=match op with
 | .load ..=>true
 | _=>false
def C1R (L:Lay) (late:Nat->Bool) (l:List Oper):Nat->Nat->List Bool:=List.rec (motive:=fun _=>Nat->Nat->List Bool) (fun _ _=>[]) (fun o _ ih i m=>
 Bool.rec (motive:=fun _=>List Bool)
  (cond (B4D L o.op||(C0M o.op&&not (late i))) (false::ih (Nat.succ i) m) (true::ih (Nat.succ i) (Nat.lor m (bit i))))
  (cond (B4D L o.op) false true::ih (Nat.succ i) (Nat.lor m (bit i)))
  (not (Nat.beq (Nat.land (B09 o.after.toList) m) 0))) l
def B6N (L:Lay) (late:Nat->Bool) (ops:List Oper):Sched:=mkM (A0r ops.toArray ops (C1R L late ops 0 0) ops 0) (bit ops.length-1) (Nat.succ ops.length) 0
def C0w (a b:Value):Bool:=match a,b with
 | .int k x,.int k' y=>K7 k k'&&eqI x y
 | .string s,.string t=>eqL s.data.toList t.data.toList
 | .bool x,.bool y=>x==y
 | .pointer none,.pointer none=>true
 | .slice none n c,.slice none n' c'=>Nat.beq n n'&&Nat.beq c c'
 | .nilIface,.nilIface=>true
 | .nilFunc,.nilFunc=>true
 | .map none,.map none=>true
 | .complex .f64 x y,.complex .f64 x' y'=>Nat.beq x x'&&Nat.beq y y'
 | .float .f64 x,.float .f64 x'=>Nat.beq x x'
 | .tuple a,.tuple b=>A2s a.toList&&A2s b.toList
 | _,_=>false
def eqC (a b:EC):Bool:=match a,b with
 | .k c,.k d=>Nat.beq c d
 | .j c b,.j d b'=>Nat.beq c d&&Nat.beq b b'
 | .z c,.z d=>Nat.beq c d
 | _,_=>false
def B4E {α:Type} (R:α->α->Bool) (a:List α):List α->Bool:=List.rec (motive:=fun _=>List α->Bool) (fun b=>A2s b) (fun x _ ih b=>match b with
 | []=>false
 | y::r=>and (R x y) (ih r)) a
def eqE (a b:EB):Bool:=match a,b with
 | .l x,.l y=>C0w x y
 | .p N o,.p M o'=>Nat.beq N M&&Nat.beq o o'
 | .s N o n c,.s M o' n' c'=>Nat.beq N M&&Nat.beq o o'&&Nat.beq n n'&&eqC c c'
 | .m N,.m M=>Nat.beq N M
 | .f g cs,.f h ds=>Nat.beq g h&&B4E (fun c d=>Nat.beq c.1 d.1&&Nat.beq c.2 d.2) cs ds
 | .rg k lo hi,.rg k' lo' hi'=>K7 k k'&&eqI lo lo'&&eqI hi hi'
 | .bo,.bo=>true
 | _,_=>false
def eqX (a b:EV):Bool:=match a,b with
 | .o x,.o y=>eqE x y
 | .a x,.a y=>B4E eqE x y
 | .t x,.t y=>B4E (fun c d=>(c.1==d.1)&&B4E eqE c.2 d.2) x y
 | _,_=>false
def eqO {α:Type} (R:α->α->Bool) (a b:Option α):Bool:=match a,b with
 | none,none=>true
 | some x,some y=>R x y
 | _,_=>false
def eqT {α:Type} (R:α->α->Bool) (a:Tr α):Tr α->Bool:=Tr.rec (motive:=fun _=>Tr α->Bool) (fun b=>match b with
  | .e=>true
  | _=>false)
 (fun v _ _ il ir b=>match b with
  | .e=>false
  | .n v' l' r'=>eqO R v v'&&il l'&&ir r') a
def B4F (a b:Ent):Bool:=match a,b with
 | .d,.d=>true
 | .c T sz xs,.c T' sz' xs'=>Nat.beq T T'&&Nat.beq sz sz'&&B4E eqE xs xs'
 | .m es c,.m es' c'=>B4E (fun c d=>C0w c.1 d.1&&eqX c.2.1 d.2.1&&Nat.beq c.2.2 d.2.2) es es'&&Nat.beq c c'
 | .i M s l c,.i M' s' l' c'=>Nat.beq M M'&&Nat.beq s s'&&B4E Nat.beq l l'&&Nat.beq c c'
 | .r xs,.r xs'=>B4E eqE xs xs'
 | _,_=>false
def B83 (a:EB):Bool:=match a with
 | .s _ _ _ (.z _)=>false
 | .rg _ _ _=>false
 | .bo=>false
 | _=>true
def B1C (xs:List EB):Bool:=List.rec (motive:=fun _=>Bool) true (fun x _ ih=>and (B83 x) ih) xs
structure Acc where
 lks:List (Nat × Nat × List EB)
 hs:List Hp
def A7X (H:Hp) (lk:Nat × Nat × List EB):Bool:=match rowR H lk.1 with
 | some xs=>B4E eqE ((xs.drop lk.2.1).take lk.2.2.length) lk.2.2&&B1C lk.2.2
 | none=>false
def B6O (M:Mach) (t:Nat) (v:EV) (H0:Hp) (A:Acc) (K:EV->Acc->Bool):Bool:=match v with
 | .o (.p N o)=>match rowR H0 N,M.L.ty t with
  | some xs,d=>match xLd d xs o with
   | some u=>fL ((xs.drop o).take d.size) fun ys=>cond (B1C ys&&B9R (fun H=>A7X H (N,o,ys)) A.hs) (fV u fun u=>K u ⟨(N,o,ys)::A.lks,A.hs⟩) false
   | none=>false
  | none,_=>false
 | _=>false
def xQ (M:Mach) (H0:Hp) (T:Nat) (op:Op) (F:Tr EV) (A:Acc) (K:EV->Acc->Bool):Bool:=match op with
 | .load t x=>match xEv F x with
  | some v=>B6O M t v H0 A K
  | none=>false
 | op=>match xP M.P M.L M.Q T op F with
  | some v=>fV v fun v=>K v A
  | none=>false
abbrev Kd:=Tr EV->Hp->Acc->Bool
def xD (M:Mach) (call:Nat->List EV->Hp->Kt->Bool) (ops:List Oper) (H0:Hp) (nb:Nat) (s:Sched):Tr EV->Hp->Acc->Kd->Bool:=
 Sched.rec (motive:=fun _=>Tr EV->Hp->Acc->Kd->Bool)
  (fun F H A K=>K F H A)
  (fun i F H A K=>match ops[i]? with
   | some o=>A7W M call (some (Nat.add nb i)) ops o F H fun F H=>K F H A
   | none=>false)
  (fun i _ ih F H A K=>match ops[i]? with
   | some o=>match A4x ops F o.guard with
    | some true=>xQ M H0 o.type o.op F A fun v A=>B82 F o.dst v fun F=>ih F H A K
    | some false=>B82 F o.dst (lit undef) fun F=>ih F H A K
    | none=>false
   | none=>false)
  (fun i _ t ihs iht F H A K=>match ops[i]? with
   | some o=>A7W M call (some (Nat.add nb i)) ops o F H fun F1 H1=>cond (B9R (A7X H1) A.lks) (ihs F1 H1 ⟨A.lks,H1::A.hs⟩ fun F2 H2 A2=>cond t.isStop (K F2 H2 A2) (iht F H A2 fun F3 H3 A3=>cond (eqT eqX F2 F3&&eqT B4F H2.t H3.t&&Nat.beq H2.n H3.n) (K F2 H2 A3) false)) false
   | none=>false)
  (fun F H A K=>K F H A) s
@[irreducible] def A9w:Nat:=100000
abbrev Kc:=Exit->Tr EV->Hp->Bool
def A9x (X:Tr EV->Hp->Kc->Bool) (K:Kc) (n:Nat):Tr EV->Hp->Bool:=Nat.rec (motive:=fun _=>Tr EV->Hp->Bool) (fun _ _=>false) (fun _ go F H=>X F H fun e F H=>match e with
 | .normal=>go F H
 | e=>K e F H) n
def A2X (M:Mach) (call:Nat->List EV->Hp->Kt->Bool) (g:Nat) (c:Code):Tr EV->Hp->Kc->Bool:=
 Code.rec (motive:=fun _=>Tr EV->Hp->Kc->Bool)
  (fun F H K=>K .normal F H)
  (fun id ops d F H K=>cond d
   (cond (A7S ops.toList (C1R M.L (M.late g id) ops.toList 0 0) (B6N M.L (M.late g id) ops.toList)) (fN (Nat.add H.n ops.toList.length) fun n=>xD M call ops.toList H H.n (B6N M.L (M.late g id) ops.toList) F ⟨H.t,n⟩ ⟨[],[]⟩ fun F H _=>K .normal F H) false)
   (C1Q M call ops.toList ops.toList F H fun F H=>K .normal F H))
  (fun _ _ iha ihb F H K=>iha F H fun e F H=>match e with
   | .normal=>ihb F H K
   | e=>K e F H)
  (fun c _ _ iha ihb F H K=>match xEv F c with
   | some (.o (.l (.bool b)))=>Bool.rec (ihb F H K) (iha F H K) b
   | _=>false)
  (fun id _ ih F H K=>ih F H fun e F H=>match e with
   | .exit i=>cond (Nat.beq i id) (K .normal F H) (K (.exit i) F H)
   | e=>K e F H)
  (fun _ ih F H K=>A9x ih K A9w F H)
  (fun _ _ _ _ _ _ _ _ _=>false)
  (fun id F H K=>K (.exit id) F H)
  (fun _ _ _ _ _=>false)
  (fun _ F H K=>K .normal F H)
  (fun _ _ _ _=>false)
  (fun F H K=>K .ret F H)
  (fun _ _ _ _=>false) c
def B7M (M:Mach) (F:Tr EV) (H:Hp) (rs:List ResultVar):List EV->(List EV->Bool)->Bool:=
 List.rec (motive:=fun _=>List EV->(List EV->Bool)->Bool) (fun vs K=>K vs.reverse) (fun r _ ih vs K=>match r with
  | .tmp t=>match F.get t with
   | some v=>ih (v::vs) K
   | none=>false
  | .cell a t=>match F.get a with
   | some p=>match A8f M t p H with
    | some v=>fV v fun v=>ih (v::vs) K
    | none=>false
   | none=>false) rs
def C1S (vs:List EV):Option (List (Bool × List EB)):=List.rec (motive:=fun _=>Option (List (Bool × List EB))) (some []) (fun v _ ih=>match ih with
 | some r=>match v with
  | .o x=>some ((false,[x])::r)
  | .a xs=>some ((true,xs)::r)
  | .t _=>none
 | none=>none) vs
def B84 (vs:List EV):Option EV:=match vs with
 | [v]=>some v
 | vs=>match C1S vs with
  | some ys=>some (.t ys)
  | none=>none
def B6P (args:List EV):Nat->Tr EV->(Tr EV->Bool)->Bool:=
 List.rec (motive:=fun _=>Nat->Tr EV->(Tr EV->Bool)->Bool) (fun _ F K=>K F) (fun v _ ih i F K=>F.setK i v fun F=>ih (Nat.succ i) F K) args
def B1D (M:Mach) (fuel:Nat):Nat->List EV->Hp->Kt->Bool:=
 Nat.rec (motive:=fun _=>Nat->List EV->Hp->Kt->Bool) (fun _ _ _ _=>false) (fun _ ih n args H K=>match M.prim n args H with
  | some v=>fV v fun v=>K v H
  | none=>cond (M.L.fns n) (match M.P.funcs[n]? with
   | some fn=>match fn.body with
    | some c=>cond (Nat.ble args.length fn.ntmps&&P1 fn.ntmps c) (B6P args 0 .e fun F=>A2X M ih n c F H fun e F H=>match e with
      | .normal=>B7M M F H fn.results.toList [] fun vs=>match B84 vs with
       | some v=>fV v fun v=>K v H
       | none=>false
      | .ret=>B7M M F H fn.results.toList [] fun vs=>match B84 vs with
       | some v=>fV v fun v=>K v H
       | none=>false
      | _=>false) false
    | none=>false
   | none=>false) false) fuel
end Go.Vx
section
namespace Go.Vx
open Go Go.Vc Go.RowKit
structure MachOk (M:Mach) (E:World->Prop):Prop where
 lay:M.L.Ok M.P
 mixed:M.P.follows .mixedOrders=true
 prim:∀ n args H v,M.prim n args H=some v->∀ w0 σ w us,E w0->Rep w0 σ H w->All2 (VR σ) args us->∀ R:Value->World->Prop,(∀ u w',VR σ v u->Below w.heap.size w w'->R u w')->A0m M.P M.L n us w R
def B1E (E:World->Prop) (F:Tr EV) (H:Hp) (v:EV) (H':Hp) (X:Fr->World->(Value->World->Prop)->Prop):Prop:=
 ∀ w0 σ f w,E w0->FR σ F f->Rep w0 σ H w->∀ R,(∀ τ u w',Ex σ τ->VR τ v u->Rep w0 τ H' w'->R u w')->X f w R
def A2P (M:Mach) (E:World->Prop) (call:Nat->List EV->Hp->Kt->Bool):Prop:=∀ n args H K,call n args H K=true->∃ v H',K v H'=true/\∀ w0 σ w us,E w0->Rep w0 σ H w->All2 (VR σ) args us->∀ R:Value->World->Prop,(∀ τ u w',Ex σ τ->VR τ v u->Rep w0 τ H' w'->R u w')->A0m M.P M.L n us w R
section
variable {M:Mach} {E:World->Prop} {F:Tr EV} {H:Hp} {K:Kt} {σ:Sg} {w0 w:World} {f:Fr}
theorem A2o {N T s:Nat} {x:List EB} (h:rowOf H N=some (T,s,x)):H.t.get N=some (.c T s x):=by
 unfold rowOf at h;split at h
 ·rename_i e;cases h;exact e
 ·cases h
theorem A8h {N:Nat} {x:List EB} (h:rowR H N=some x):(∃ T sz,H.t.get N=some (.c T sz x))\/H.t.get N=some (.r x):=by
 unfold rowR at h;split at h
 ·rename_i e;cases h;exact .inl ⟨_,_,e⟩
 ·rename_i e;cases h;exact .inr e
 ·cases h
theorem cells_of {a:Addr}:∀ (us:List Value) (k:Nat),(∀ j u,us[j]?=some u->w.cell? (a.add (k+j))=some u)->cellsAt w a us k
 | [],_,_=>trivial
 | u::us,k,h=>⟨h 0 u rfl,cells_of us (k+1) fun j v b=>by rw [show k+1+j=k+(j+1) by omega];exact h (j+1) v (by simpa using b)⟩
theorem _root_.Go.Vx.Rep.rowR (a:Rep w0 σ H w) {N:Nat} {x:List EB} (e:Go.Vx.rowR H N=some x) (i n:Nat) (g:i+n<=x.length):
  ∃ q c,σ N=some q/\All2 (BR σ) ((x.drop i).take n) c/\c.length=n/\cellsAt w ⟨q.b,q.o+i,none⟩ c 0:=by
 obtain⟨T,sz,e⟩|e:=A8h e
 ·exact a.row e i n g
 ·obtain⟨q,c,d,j,k,b,f⟩:=a.ent N _ e;have l:=b.len;refine⟨q,_,d,(b.drop i).take n,by rw [zg,zh];omega,cells_of _ 0 fun m v h=>?_⟩;rw [List.getElem?_take] at h;split at h
  ·rw [List.getElem?_drop] at h;rw [yi,zn,Nat.add_assoc];exact f _ _ h
  ·cases h
theorem _root_.Go.Vx.Rep.cellR (h:Rep w0 σ H w) {N:Nat} {s:List EB} (e:Go.Vx.rowR H N=some s) {i:Nat} {a:EB} (x:s[i]?=some a):∃ q v,σ N=some q/\BR σ a v/\w.cell? ⟨q.b,q.o+i,none⟩=some v:=by
 obtain⟨T,sz,e⟩|e:=A8h e
 ·exact h.cell e x
 ·obtain⟨q,f,b,g,j,c,d⟩:=h.ent N _ e;obtain⟨v,hv,r⟩:=c.get x;exact⟨q,v,b,r,d _ _ hv⟩
theorem _root_.Go.Vx.Rep.placeR (h:Rep w0 σ H w) {N:Nat} {x:List EB} (e:Go.Vx.rowR H N=some x):∃ q,σ N=some q:=by
 obtain⟨T,sz,e⟩|e:=A8h e
 ·obtain⟨q,h,_⟩:=(h.ent N _ e).place rfl;exact⟨q,h⟩
 ·obtain⟨q,h,_⟩:=(h.ent N _ e).place rfl;exact⟨q,h⟩
def ldK (d:TD) (w:World) (a:Addr) (R:Value->World->Prop):Prop:=match d with
 | .none=>False
 | .array _ _ _ z=>∃ cs:List Value,cs.length=z.length/\cellsAt w a cs 0/\R (.agg cs.toArray) w
 | .struct _ z=>∃ cs:List Value,cs.length=z.length/\cellsAt w a cs 0/\R (.agg cs.toArray) w
 | _=>∃ v,w.cell? a=some v/\R v w
theorem C0N {P:Program} {L:Lay} {T t:Nat} {x:Operand} {a:Addr} {R:Value->World->Prop} (e:ev f x=.pointer (some a)) (h:ldK (L.ty t) w a R):vOp P L T (.load t x) f w R:=by
 show (match L.ty t,ev f x with
  | .none,_=>False
  | .array _ _ _ z,.pointer (some a)=>∃ c:List Value,c.length=z.length/\cellsAt w a c 0/\R (.agg c.toArray) w
  | .struct _ z,.pointer (some a)=>∃ c:List Value,c.length=z.length/\cellsAt w a c 0/\R (.agg c.toArray) w
  | _,.pointer (some a)=>∃ v,w.cell? a=some v/\R v w
  | _,_=>False)
 rw [e];cases d:L.ty t<;>rw [d] at h<;>exact h
theorem B7N {d:TD} {N o:Nat} {x:List EB} {v:EV} (h:xLd d x o=some v) (i:Rep w0 σ H w) (f:rowR H N=some x):∃ q,σ N=some q/\∀ R:Value->World->Prop,(∀ u,VR σ v u->R u w)->ldK d w ⟨q.b,q.o+o,none⟩ R:=by
 have one:(match x[o]? with
   | some j=>some (EV.o j)
   | none=>none)=some v->∃ q,σ N=some q/\∀ R:Value->World->Prop,(∀ u,VR σ v u->R u w)->∃ u,w.cell? ⟨q.b,q.o+o,none⟩=some u/\R u w:=fun h=>by
  split at h
  ·rename_i j p;cases h;obtain⟨q,u,a,b,m⟩:=i.cellR f p;exact⟨q,a,fun R e=>⟨u,m,e _ b⟩⟩
  ·cases h
 have g:∀ {z:List Value},cond (Nat.ble (Nat.add o z.length) x.length) (some (EV.a ((x.drop o).take z.length))) none=some v->∃ q,σ N=some q/\∀ R:Value->World->Prop,(∀ u,VR σ v u->R u w)->∃ c:List Value,c.length=z.length/\cellsAt w ⟨q.b,q.o+o,none⟩ c 0/\R (.agg c.toArray) w:=fun h=>by obtain⟨a,b⟩:=B6 h;cases b;obtain⟨q,c,r,s,t,y⟩:=i.rowR f o _ (ze a);exact⟨q,r,fun R e=>⟨c,t,y,e _ ⟨c,s,rfl⟩⟩⟩
 cases d with
 | none=>cases h
 | array n l esz z=>exact g h
 | struct A z=>exact g h
 | int k=>exact one h
 | str=>exact one h
 | bool=>exact one h
 | slice l esz=>exact one h
 | one z=>exact one h
theorem B6Q {t T:Nat} {p v:EV} {x:Operand} (h:A8f M t p H=some v) (b:FR σ F f) (g:xEv F x=some p) (c:Rep w0 σ H w) {R:Value->World->Prop} (K:∀ u,VR σ v u->R u w):vOp M.P M.L T (.load t x) f w R:=by
 unfold A8f at h;split at h
 ·split at h
  ·rename_i r;obtain⟨q,a,l⟩:=B7N h c r;obtain⟨i,d,e⟩:=C8 b g;rw [show σ _=some i from d] at a;cases a;exact C0N e (l R K)
  ·cases h
 ·cases h
theorem B4G {t T:Nat} {p l:EV} {x y:Operand} (h:A9t M t p l H K=true) (J:xEv F x=some p) (L:xEv F y=some l):∃ v H',K v H'=true/\B1E E F H v H' (fun f w R=>vOp M.P M.L T (.store t x y) f w R):=by
 unfold A9t at h;split at h
 ·rename_i N o;split at h
  ·rename_i d V sz xs s I D;cases b:(B7I s&&Nat.beq s.length (M.L.ty t).size&&Nat.ble (Nat.add o s.length) xs.length&&not (Nat.beq (M.L.ty t).size 0)) with
   | false=>rw [b] at h;cases h
   | true=>
    rw [b,cond_true,A0q] at h;obtain⟨U,z,A⟩:=Tr.setK_ok _ _ _ _ h;rw [z7,z7,z7,Bool.not_eq_true'] at b;obtain⟨⟨⟨m,n⟩,r⟩,i⟩:=b;refine⟨_,_,z,fun w0 σ f w W j C R B=>?_⟩;obtain⟨q,G,e⟩:=C8 j J;have u:=A3s D (C8 j L);obtain⟨q',k,O,P⟩:=C.store (H':=⟨U,H.n⟩) (A2o I) u (A8c m u) (ze r) A;rw [show σ N=some q from G] at k;cases k;have Q:∀ d:TD,d=M.L.ty t->A4N (ev f y) fun c=>cond (Nat.beq c.length d.size) (E0 w ⟨q.b,q.o+o,none⟩ c 0/\∀ w',E6 w ⟨q.b,q.o+o,none⟩ c w'->R undef w') False:=fun d g=>by subst g;rw [A2u,show (ev f y).cells.toList.length=s.length from u.len,n];exact⟨O,fun w' S=>B _ _ _ (Ex.refl _) rfl (P w' S)⟩
    show (match M.L.ty t,ev f x with
     | .none,_=>False
     | d,.pointer (some a)=>A4N (ev f y) fun c=>cond (Nat.beq c.length d.size) (E0 w a c 0/\∀ w',E6 w a c w'->R undef w') False
     | _,_=>False)
    rw [e];cases g:M.L.ty t with
    | none=>rw [g] at i;cases i
    | _=>exact Q _ g.symm
  ·cases h
 ·cases h
theorem B4H {N n:Nat} {Z:Ent} {K:Nat->Hp->Bool} (h:C0t N n Z H K=true):∃ H',K N H'=true/\H.t.get N=none/\∀ j,H'.t.get j=if j=N then some Z else H.t.get j:=by
 unfold C0t at h;split at h
 ·rename_i e;obtain⟨t,a,b⟩:=Tr.setK_ok _ _ _ _ h;exact⟨_,a,e,b⟩
 ·cases h
theorem A5y {n:Option Nat} {Z:Ent} {K:Nat->Hp->Bool} (h:B7J n Z H K=true):∃ N H',K N H'=true/\H.t.get N=none/\∀ j,H'.t.get j=if j=N then some Z else H.t.get j:=by
 unfold B7J at h;split at h
 ·exact⟨_,B4H h⟩
 ·rw [A0W] at h;exact⟨_,B4H h⟩
theorem A18 {n:Option Nat} {T s:Nat} {x:List EB} {K:Nat->Hp->Bool} (h:A5t n T s x H K=true):∃ N H',K N H'=true/\H.t.get N=none/\∀ j,H'.t.get j=if j=N then some (.c T s x) else H.t.get j:=by unfold A5t at h;rw [A0q] at h;exact A5y h
theorem A2p {o:Option Nat} {t:Nat} {x:List EB} {K:Kt} {mk:Nat->EV} {mkV:Nat->Value} (h:A5t o t 0 x H (fun N H=>K (mk N) H)=true) (m:∀ (a:Sg) N g,a N=some ⟨g,0,0⟩->VR a (mk N) (mkV g)):
  ∃ v H',K v H'=true/\∀ w0 σ w (c:List Value),Rep w0 σ H w->All2 (BR σ) x c->∀ R:Value->World->Prop,(∀ a u w',Ex σ a->VR a v u->Rep w0 a H' w'->R u w')->∀ g w',New w c t g w'->R (mkV g) w':=by
 obtain⟨N,H',b,d,e⟩:=A18 h;refine⟨_,_,b,fun w0 σ w c i j R f g w' G=>?_⟩;obtain⟨k,l,n⟩:=i.alloc j G d e;exact f _ _ _ k (m _ _ _ l) n
theorem B7O (a:Sg) (N g:Nat) (h:a N=some ⟨g,0,0⟩):VR a (.o (.p N 0)) (.pointer (some ⟨g,0,none⟩)):=⟨_,h,rfl⟩
theorem C0O (n:Nat) (a:Sg) (N g:Nat) (h:a N=some ⟨g,0,0⟩):VR a (.o (.s N 0 n (.k n))) (.slice (some ⟨g,0,none⟩) n n):=⟨_,_,n,h,⟨rfl,rfl,zc _⟩,rfl⟩
theorem A7Y {d:TD} {e esz:Nat} (h:elemOf d=some (e,esz)):d=.slice e esz:=by
 unfold elemOf at h;split at h
 ·cases h;rfl
 ·cases h
end
end Go.Vx
end
section
namespace Go.Vx
open Go Go.Vc Go.RowKit
section
variable {P:Program} {w0 w w':World} {σ:Sg} {H H':Hp} {E:World->Prop} {K:Kt} {N T sz esz e m n:Nat} {xs news:List EB} {us:List Value}
theorem A05 (g i k:Nat):∀ (us:List Value) (w:World),w.setCells g (i+k) us=Vc.stored w ⟨g,i,none⟩ us k:=by
 intro us;induction us generalizing k with
 | nil=>intro w;rfl
 | cons u us h=>
  intro w;show (w.setCell ⟨g,i+k,none⟩ u).setCells g (i+(k+1)) us=Vc.stored (w.setCell ((⟨g,i,none⟩:Addr).add k) u) ⟨g,i,none⟩ us (k+1);rw [yi,h]
theorem A5z {g:Nat} {c:List Value} (h:Blk w g T c) {i:Nat} (a:i<c.length):(w.cell? ⟨g,i,none⟩).isSome=true/\w.frozen? ⟨g,i,none⟩=false:=
 ⟨by rw [h.cell,yc a];rfl,h.frozen i⟩
structure AppT (P:Program) (t e esz:Nat) (i:TypeInfo) (z:Value):Prop where
 ht:P.underlying t=some (.slice e)
 hi:P.info? e=some i
 size:i.size=esz
 bytes:i.bytes<=4096
 hz:i.zero=some z
 zs:z.cells.size=esz
theorem B85 {t:Nat} (a:C1P P t e esz=true):∃ i z,AppT P t e esz i z:=by
 unfold C1P at a;rw [z7] at a;obtain⟨b,h⟩:=a;split at b
 ·rename_i l u;have g:=z8 b;subst g;split at h
  ·rename_i i j;rw [z7,z7] at h;obtain⟨⟨d,f⟩,c⟩:=h;split at c
   ·rename_i z k;exact⟨i,z,u,j,z8 d,ze f,k,z8 c⟩
   ·cases c
  ·cases h
 ·cases b
theorem A9y {t:Nat} {E:EV} {u:Value} (b:B39 P t E esz H=some (m,news)) (M:B7I news=true) (J:Rep w0 σ H w) (y:VR σ E u):∃ us,Src P esz t u m us w/\All2 (BR σ) news us:=by
 have T:B7G P t=true->∃ g,P.underlying t=some (.slice g):=fun b=>by
  unfold B7G at b;split at b
  ·rename_i g f;exact⟨g,f⟩
  ·cases b
 unfold B39 at b;split at b
 ·obtain⟨d,h⟩:=B6 b;rw [z7] at d;obtain⟨g,f⟩:=T d.2;cases h;cases y;have:=z8 d.1;subst this;exact⟨[],Src.ofNil w f _,t6⟩
 ·rename_i s;obtain⟨d,h⟩:=B6 b;rw [z7] at d;cases h;cases y;have:=z8 d.1;subst this;have L:P.underlying t=some .string:=by
   have i:=d.2;unfold B1A at i;split at i
   ·rename_i e;exact e
   ·cases i
  exact⟨byteCells s,Src.ofString w L s,All2.map (R:=BR σ) (fun c:UInt8=>EB.l (.int .u8 (Int.ofNat c.toNat))) (fun c=>Value.int .u8 c.toNat) (fun c=>rfl) s.data.toList⟩
 ·rename_i N o l c;obtain⟨d,h⟩:=B6 b;obtain⟨g,f⟩:=T d;obtain⟨q,a,p,O,A,rfl⟩:=y;cases v:Nat.beq l 0 with
  | true=>
   rw [v] at h;cases h;have:=z8 v;subst this;exact⟨[],Src.ofSlice w f a 0 p [] (by simp) (fun j u x=>by cases x) (fun u Q=>by cases Q),t6⟩
  | false=>
   rw [v,cond_false] at h;have D:∀ {xs:List EB},rowR H N=some xs->a=⟨q.b,q.o+o,none⟩->cond (Nat.ble (Nat.add o (Nat.mul l esz)) xs.length) (some (l,(xs.drop o).take (Nat.mul l esz))) none=some (m,news)->∃ us,Src P esz t (.slice (some a) l p) m us w/\All2 (BR σ) news us:=fun r K i=>by obtain⟨G,I⟩:=B6 i;cases I;obtain⟨q',n,B,C,S,U⟩:=J.rowR r o _ (ze G);rw [O] at B;cases B;subst K;refine⟨n,Src.ofSlice w f _ _ p n S (fun j u x=>?_) (A8c M C),C⟩;have:=K9 n 0 U j u x;rwa [zn] at this
   cases r:rowR H N with
   | none=>rw [r] at h;cases c<;>cases h
   | some xs=>
    rw [r] at h;cases c with
    | k c=>exact D r A.1 h
    | j F V=>exact D r A.1 h
    | z F=>cases h
 ·cases b
theorem B4I {t:Nat} {x:EV} (a:B39 P t x esz H=some (m,news)):news.length=m*esz:=by
 unfold B39 at a;split at a
 ·obtain⟨_,h⟩:=B6 a;cases h;rw [Nat.zero_mul];rfl
 ·obtain⟨d,h⟩:=B6 a;rw [z7] at d;cases h;rw [zl,z8 d.1,Nat.mul_one]
 ·rename_i N o b c;obtain⟨_,h⟩:=B6 a;cases e:Nat.beq b 0 with
  | true=>rw [e] at h;cases h;rw [Nat.zero_mul];rfl
  | false=>
   rw [e,cond_false] at h;have y:∀ {xs:List EB},cond (Nat.ble (Nat.add o (Nat.mul b esz)) xs.length) (some (b,(xs.drop o).take (Nat.mul b esz))) none=some (m,news)->news.length=m*esz:=fun g=>by obtain⟨i,l⟩:=B6 g;cases l;have:=ze i;rw [zg,zh];exact Nat.min_eq_left (Nat.le_sub_of_add_le (by rw [Nat.add_comm];exact this))
   cases r:rowR H N with
   | none=>rw [r] at h;cases c<;>cases h
   | some xs=>
    rw [r] at h;cases c with
    | k c=>exact y h
    | j f n=>exact y h
    | z f=>cases h
 ·cases a
theorem A7Z:∀ (us r:List Value) (k:Nat),k+us.length<=r.length->∀ j:Nat,(C5 r k us)[j]?=if k<=j/\j<k+us.length then us[j-k]? else r[j]?
 | [],r,k,_,j=>by rw [yo (by simp)];rfl
 | u::us,r,k,h,j=>by
  rw [zj] at h;show (C5 (r.set k u) (k+1) us)[j]?=_;rw [A7Z us _ _ (by rw [List.length_set];omega),zj];by_cases e:k=j
  ·subst e;rw [yo (by omega),yn (by omega),List.getElem?_set_self (by omega),Nat.sub_self];rfl
  ·by_cases c:k+1<=j/\j<k+1+us.length
   ·rw [yn c,yn (by omega),show j-k=(j-(k+1))+1 by omega,List.getElem?_cons_succ]
   ·rw [yo c,yo (by omega),List.getElem?_set_ne e]
theorem B6R {k:TypeInfo} {z:Value} {m:Nat} (A:AppT P m e esz k z) (i:esz≠0) (R:Rep w0 σ H w) {s:List Value} {c:Nat} (x:All2 (BR σ) xs s) (l:s.length=n*esz) (o:n<=c) (g:c<=maxLen) (a:H.t.get N=none) (t:∀ j,H'.t.get j=if j=N then some (.c e esz xs) else H.t.get j):
  Ex σ (A4u σ N ⟨w.heap.size,0,c⟩)/\A4u σ N ⟨w.heap.size,0,c⟩ N=some ⟨w.heap.size,0,c⟩/\Rep w0 (A4u σ N ⟨w.heap.size,0,c⟩) H' (w.drew.alloc (.cells (s.toArray++Builtin.zeroCells z.cells (c-n)) e)):=by
 refine⟨V3 R a _,yn rfl,R.new ⟨w.heap.size,0,c⟩ ((Below.refl _ w).drew.alloc (zc _) _) (zc _) a t ⟨⟨w.heap.size,0,c⟩,s++(Builtin.zeroCells z.cells (c-n)).toList,s,yn rfl,R.below.size,?_,fun h=>absurd h i,fun _=>⟨?_,g⟩,x.mono (BR.ex (V3 R a _)),fun j v b=>?_⟩⟩
 ·show (w.drew.alloc _).heap[w.heap.size]?=_;have:=heap_alloc_new w.drew (.cells (s.toArray++Builtin.zeroCells z.cells (c-n)) e);have d:(s++(Builtin.zeroCells z.cells (c-n)).toList).toArray=s.toArray++Builtin.zeroCells z.cells (c-n):=by apply Array.ext';simp
  rw [d];exact this
 ·have f:(Builtin.zeroCells z.cells (c-n)).toList.length=(c-n)*esz:=by rw [Array.length_toList,size_zeroCells,A.zs]
  rw [z6,f,l,<-Nat.add_mul];show (n+(c-n))*esz=0+c*esz;rw [show n+(c-n)=c by omega,zn]
 ·rw [zn,List.getElem?_append_left]
  ·exact b
  ·obtain h|h:=zm j s.length
   ·exact h
   ·rw [List.getElem?_eq_none h] at b;cases b
theorem A9z (R:Rep w0 σ H w) (i:H.t.get N=some (.c T sz xs)) {q:Pl} (b:σ N=some q) {k:Nat} {u:List Value} (l:All2 (BR σ) news u) (G:k+news.length<=xs.length) (D:∀ j,H'.t.get j=if j=N then some (.c T sz (A9o xs k news)) else H.t.get j):
  (∀ j,j<u.length->(w.cell? ⟨q.b,q.o+k+j,none⟩).isSome=true)/\(∀ j,j<u.length->w.frozen? ⟨q.b,q.o+k+j,none⟩=false)/\Rep w0 σ H' (w.setCells q.b (q.o+k) u):=by
 obtain⟨q',c,f,n,E,d,o,p,r,t⟩:=R.ent N _ i;rw [b] at n;cases n;have J:=l.len;have I:=r.len;have C:∀ j,j<f.length->q.o+j<c.length:=fun j h=>by
  have:=t j _ (yc h);obtain a|a:=zm (q.o+j) c.length
  ·exact a
  ·rw [List.getElem?_eq_none a] at this;cases this
 have m:∀ j,j<u.length->q.o+k+j<c.length:=fun j h=>by have:=C (k+j) (by omega);omega
 refine⟨fun j h=>(A5z d (m j h)).1,fun j h=>(A5z d (m j h)).2,?_⟩;have g:=A05 q.b (q.o+k) 0 u w;rw [Nat.add_zero] at g;obtain⟨e,v,F,x,y,z⟩:=L9 (q.o+k) u w 0 c d;rw [<-g] at e v F x y z;rw [Nat.add_zero] at e;refine R.turn i rfl b (by omega) ⟨x,y,z⟩ (fun A B _=>v A B) D ⟨q,_,_,b,E,e,fun s=>⟨(o s).1,?_⟩,fun s=>⟨?_,(p s).2⟩,A3p k r l,A8Z q.o u f c k (by omega) t⟩
 ·rw [putAt_len,A5p];exact (o s).2
 ·rw [putAt_len];exact (p s).1
theorem A90 (R:Rep w0 σ H w) {M:Nat} {H1:Hp} (z:esz≠0) (y:H.t.get M=some (.c e esz xs)) {q:Pl} (D:σ M=some q) {k t c:Nat} {u:List Value} (E:All2 (BR σ) news u) (hk:k<=xs.length) (T:k=t*esz) (Q:c+t=q.c) (a2:xs.length+news.length<=q.c*esz)
  (x:∀ j,H1.t.get j=if j=M then some .d else H.t.get j) (f:H1.t.get N=none) (W:∀ j,H'.t.get j=if j=N then some (.c e esz (xs.drop k++news)) else H1.t.get j):
  (∀ j,j<u.length->(w.cell? ⟨q.b,q.o+xs.length+j,none⟩).isSome=true)/\(∀ j,j<u.length->w.frozen? ⟨q.b,q.o+xs.length+j,none⟩=false)/\Ex σ (A4u σ N ⟨q.b,q.o+k,c⟩)/\Rep w0 (A4u σ N ⟨q.b,q.o+k,c⟩) H' (w.setCells q.b (q.o+xs.length) u):=by
 obtain⟨q',r,s,G,Y,m,k4,I,J,K⟩:=R.ent M _ y;rw [D] at G;cases G;have a5:=E.len;have a3:=J.len;have S:=(I z).1;have C:∀ j,j<u.length->q.o+xs.length+j<r.length:=fun j h=>by omega
 have g:Rep w0 σ H1 w:=R.lose x;refine⟨fun j h=>(A5z m (C j h)).1,fun j h=>(A5z m (C j h)).2,V3 g f _,?_⟩;have v:=A05 q.b (q.o+xs.length) 0 u w;rw [Nat.add_zero] at v;obtain⟨n,o,s3,L,O,P⟩:=L9 (q.o+xs.length) u w 0 r m;rw [<-v] at n o s3 L O P;rw [Nat.add_zero] at n;have X:=V3 g f ⟨q.b,q.o+k,c⟩;have a1:∀ j,j<s.length->q.o+j<r.length:=fun j h=>by
  have:=K j _ (yc h);obtain l|l:=zm (q.o+j) r.length
  ·exact l
  ·rw [List.getElem?_eq_none l] at this;cases this
 have a4:=R.below.size;refine g.newG ⟨q.b,q.o+k,c⟩ ⟨L.trans R.below.os,O.trans R.below.tape,P.trans R.below.output,by omega,fun d i=>(o d (by omega)).trans (R.below.block d i)⟩ (fun d i _=>o d i) (fun p F Z b A V=>?_) f W ⟨⟨q.b,q.o+k,c⟩,_,s.drop k++u,yn rfl,Y,n,fun a=>absurd a z,fun _=>⟨?_,?_⟩,(All2.append (J.drop k) E).mono (BR.ex X),fun j a0 h=>?_⟩
 ·rw [x] at b;by_cases e:p=M
  ·rw [yn e] at b;cases b;cases A
  ·rw [yo e] at b;exact R.sep p M F _ Z q e b y A rfl V D
 ·rw [putAt_len,S];show q.o+q.c*esz=q.o+k+c*esz;rw [T,<-Q,Nat.add_mul];omega
 ·exact zq (by show c<=q.c;omega) (I z).2
 ·show (C5 r (q.o+xs.length) u)[q.o+k+j]?=some a0;rw [A7Z _ _ _ (by omega)];rw [List.getElem?_append] at h;split at h
  ·rename_i B;rw [zh] at B;rw [yo (by omega)];rw [List.getElem?_drop] at h;rw [Nat.add_assoc];exact K _ _ h
  ·rename_i U;rw [zh] at U h;have B:j-(s.length-k)<u.length:=by
    obtain a|a:=zm (j-(s.length-k)) u.length
    ·exact a
    ·rw [List.getElem?_eq_none a] at h;cases h
   rw [yn (by omega),show q.o+k+j-(q.o+xs.length)=j-(s.length-k) by omega];exact h
theorem C2 {b x:Bool} (h:cond b x false=true):b=true/\x=true:=by
 cases b
 ·cases h
 ·exact⟨rfl,h⟩
def A3y (P:Program) (t tx esz m:Nat) (w0:World) (σ:Sg) (w:World) (u u':Value) (us:List Value) (v:EV) (H':Hp):Prop:=Src P esz tx u' m us w->∀ ty,∃ v' w',(Builtin.append_ #[t,tx] ty #[u,u']).run P w=.ok v' w'/\∃ τ,Ex σ τ/\VR τ v v'/\Rep w0 τ H' w'
section
variable {t tx:Nat} {i:TypeInfo} {z:Value} {o:Nat} {q:Pl} {u':Value}
theorem A2q (h:AppT P t e esz i z) (A:esz≠0) (s:n+m<=20000) (l:H.t.get N=none) (y:∀ j,H'.t.get j=if j=N then some (.c e esz xs) else H.t.get j) {a:Option Addr} {c:Nat} {olds:List Value} (R:Rep w0 σ H w)
  (p:(Builtin.firstCells esz n (.slice a n c)).run P w.drew=.ok olds.toArray w.drew) (u:olds.length=n*esz) (r:All2 (BR σ) xs (olds++us)) (b:c<n+m):A3y P t tx esz m w0 σ w (.slice a n c) u' us (.o (.s N 0 (n+m) (.j 0 (n+m)))) H':=fun S B=>by
 have x:=h.size;subst x;have C:maxLen=9223372036854775807:=rfl;have o:(n+m)*i.bytes<=140737488355328:=zq (Nat.mul_le_mul s h.bytes) (by decide);have v:=run_append_grow_src (P:=P) w t tx B e i z h.ht h.hi h.hz a n c olds p u' m us S b (by omega) (growslice_fits b o);have g:=grownCap_ge w (n+m) c e;have q:=grownCap_le_maxLen w (n+m) c e (by omega);obtain⟨d,f,k⟩:=B6R (N:=N) h A R r (by rw [z6,u,S.newsLen,<-Nat.add_mul]) g q l y;exact⟨_,_,v,_,d,⟨_,_,_,f,⟨rfl,rfl,zc _,g⟩,rfl⟩,k⟩
theorem A3z (h:AppT P t e esz i z) {a:Option Addr} {c:Nat} {v:EV} (R:Rep w0 σ H w) (l:n<=c) (b:VR σ v (.slice a n c)):A3y P t tx esz 0 w0 σ w (.slice a n c) u' us v H:=fun S y=>by have s:=h.size;subst s;have:us=[]:=zo (by rw [S.newsLen,Nat.zero_mul]);subst this;exact⟨_,_,run_append_nothing w t tx y e i h.ht h.hi _ _ _ l _ S,σ,Ex.refl _,b,R⟩
theorem A2r (h:AppT P t e esz i z) {b off c:Nat} {v:EV} {a:Sg} (l:n+m<=c) (d:∀ j,j<us.length->(w.cell? ⟨b,off+n*esz+j,none⟩).isSome=true) (f:∀ j,j<us.length->w.frozen? ⟨b,off+n*esz+j,none⟩=false)
  (x:Ex σ a) (g:VR a v (.slice (some ⟨b,off,none⟩) (n+m) c)) (R:Rep w0 a H' (w.setCells b (off+n*esz) us)):A3y P t tx esz m w0 σ w (.slice (some ⟨b,off,none⟩) n c) u' us v H':=fun S y=>by
 have s:=h.size;subst s;exact⟨_,_,run_append_room_src (P:=P) w t tx y e i h.ht h.hi b off n c u' m us S l d f,a,x,g,R⟩
theorem Rep.len_le (R:Rep w0 σ H w) (e:H.t.get N=some (.c T sz xs)) (b:σ N=some q) (z:sz≠0):xs.length<=q.c*sz:=by
 obtain⟨q',c,s,k,j,m,n,d,f,g⟩:=R.ent N _ e;rw [b] at k;cases k;have i:=(d z).1;have l:=f.len;obtain a|a:=Nat.eq_zero_or_pos xs.length
 ·omega
 ·have:=g (xs.length-1) _ (yc (by omega));obtain h|h:=zm (q.o+(xs.length-1)) c.length
  ·omega
  ·rw [List.getElem?_eq_none h] at this;cases this
theorem Rep.first (h:Rep w0 σ H w) (e:H.t.get N=some (.c T sz xs)) (f:σ N=some q) (d:o+n*esz<=xs.length) (l a:Nat):∃ olds,(Builtin.firstCells esz n (.slice (some ⟨q.b,q.o+o,Option.none⟩) l a)).run P w.drew=.ok olds.toArray w.drew/\olds.length=n*esz/\All2 (BR σ) ((xs.drop o).take (n*esz)) olds:=by obtain⟨q',c,k,i,b,m⟩:=h.row e o (n*esz) d;rw [f] at k;cases k;refine⟨c,run_firstCells_some w.drew esz n _ l a c b (fun g v j=>?_),b,i⟩;have:=K9 c 0 m g v j;rwa [zn] at this
theorem B6S (A:AppT P t e esz i z) (D:esz≠0) (a1:n+m<=20000) (b0:0<m) {Z:EC} (B:H.t.get N=some (.c T sz xs)) (c:B8v T sz e esz N o n m Z xs news H K=true):∃ v H',K v H'=true/\∀ (w0:World) σ w G u' us,Rep w0 σ H w->VR σ (.o (.s N o n Z)) G->All2 (BR σ) news us->A3y P t tx esz m w0 σ w G u' us v H':=by
 have a7:0<esz:=Nat.pos_of_ne_zero D;unfold B8v at c;split at c
 ·rename_i Z;cases l:Nat.ble (Nat.add n m) Z with
  | true=>
   rw [l,cond_true] at c;obtain⟨f,g⟩:=C2 c;rw [A0q] at g;obtain⟨t',M,O⟩:=Tr.setK_ok _ _ _ _ g;refine⟨_,_,M,fun w0 σ w G u' us R s h S y=>?_⟩;obtain⟨q,a,cp,b,⟨u,d,a0⟩,rfl⟩:=s;subst u;subst d;have C:news.length=m*esz:=by rw [<-h.len];exact S.newsLen
   have hl:o+(n+m)*esz<=xs.length:=ze f;rw [Nat.add_mul] at hl;obtain⟨r,j,p⟩:=A9z (H':=⟨t',H.n⟩) R B b (k:=o+n*esz) h (by rw [C];omega) O;rw [<-Nat.add_assoc] at r j p;exact A2r (v:=.o (.s N o (n+m) (.k cp))) A (ze l) r j (Ex.refl _) ⟨q,_,_,b,⟨rfl,rfl,ze l⟩,rfl⟩ p S y
  | false=>
   rw [l,cond_false] at c;obtain⟨f,g⟩:=C2 c;obtain⟨I,H',W,E,F⟩:=A18 g;refine⟨_,_,W,fun w0 σ w G u' us R s h=>?_⟩;obtain⟨q,a,cp,b,⟨u,d,a0⟩,rfl⟩:=s;subst u;subst d;obtain⟨olds,o1,o2,o3⟩:=R.first (P:=P) B b (ze f) n cp;exact A2q A D a1 E F R o1 o2 (All2.append o3 h) (by
    obtain c|c:=zm cp (n+m)
    ·exact c
    ·rw [show Nat.ble (Nat.add n m) cp=true from Nat.ble_eq_true_of_le c] at l;cases l)
 ·rename_i J Y;obtain⟨f,g⟩:=C2 c;rw [z7,z7] at f;have L:o=J*esz:=z8 f.1.1;have e2:=z8 f.1.2;have e3:=z8 f.2;subst e2;subst e3;cases l:Nat.ble (Nat.add o (Nat.mul (Nat.add n m) sz)) xs.length with
  | true=>
   rw [l,cond_true,A0q] at g;obtain⟨t',M,O⟩:=Tr.setK_ok _ _ _ _ g;refine⟨_,_,M,fun w0 σ w G u' us R s h S y=>?_⟩;obtain⟨q,a,cp,b,⟨u,d,a0,a2⟩,rfl⟩:=s;subst u;have C:news.length=m*sz:=by rw [<-h.len];exact S.newsLen
   have hl:o+(n+m)*sz<=xs.length:=ze l;have a9:=R.len_le B b D;have a3:n+m<=cp:=by
    have Q:(J+(n+m))*sz<=q.c*sz:=by rw [Nat.add_mul];omega
    have:=Nat.le_of_mul_le_mul_right Q a7;omega
   rw [Nat.add_mul] at hl;obtain⟨r,j,p⟩:=A9z (H':=⟨t',H.n⟩) R B b (k:=o+n*sz) h (by rw [C];omega) O;rw [<-Nat.add_assoc] at r j p;refine A2r (v:=.o (.s N o (n+m) (.j J (cond (Nat.ble (Nat.add n m) Y) Y (Nat.add n m))))) A a3 r j (Ex.refl _) ⟨q,_,_,b,⟨rfl,d,?_,?_⟩,rfl⟩ p S y
   ·cases hx:Nat.ble (Nat.add n m) Y with
    | true=>exact ze hx
    | false=>exact zc _
   ·cases hx:Nat.ble (Nat.add n m) Y with
    | true=>exact a2
    | false=>exact a3
  | false=>
   rw [l,cond_false] at g;obtain⟨M,O⟩:=C2 g;have x:o+n*sz=xs.length:=z8 M;obtain⟨t1,Q,U⟩:=Tr.setK_ok _ _ _ _ O;obtain⟨I,H',W,E,F⟩:=A18 Q;refine⟨_,_,W,fun w0 σ w G u' us R s h S y=>?_⟩;obtain⟨q,a,cp,b,⟨u,d,a0,a2⟩,rfl⟩:=s;subst u;have C:news.length=m*sz:=by rw [<-h.len];exact S.newsLen
   by_cases V:n+m<=cp
   ·obtain⟨r,j,p,X⟩:=A90 (H1:=⟨t1,H.n⟩) R D B b (k:=o) h (by omega) L d (by rw [C,<-x,L,<-Nat.add_mul,<-Nat.add_mul];exact Nat.mul_le_mul_right _ (by omega)) U E F;rw [<-x,<-Nat.add_assoc] at r j X;exact A2r (v:=.o (.s I 0 (n+m) (.j 0 (n+m)))) A V r j p ⟨_,_,cp,yn rfl,⟨rfl,rfl,zc _,V⟩,rfl⟩ X S y
   ·obtain⟨olds,o1,o2,o3⟩:=R.first (P:=P) B b (Nat.le_of_eq x) n cp;rw [ym (by rw [zh];omega)] at o3;exact A2q A D a1 E F (R.lose U) o1 o2 (All2.append o3 h) (by omega) S y
 ·rename_i J;obtain⟨f,g⟩:=C2 c;simp only [z7] at f;obtain⟨⟨⟨⟨b1,b2⟩,b3⟩,b4⟩,b5⟩:=f;have L:o=J*esz:=z8 b1;have e2:=z8 b2;have e3:=z8 b3;have x:=z8 b4;have e5:=z8 b5;subst e2;subst e3;subst e5;obtain⟨t1,Q,U⟩:=Tr.setK_ok _ _ _ _ g;have a5:A5t none T sz news ⟨t1,H.n⟩ (fun N H=>K (.o (.s N 0 (0+m) (.j 0 (0+m)))) H)=true:=by rw [zn];exact Q
  obtain⟨I,H',W,E,F⟩:=A18 a5;refine⟨_,_,W,fun w0 σ w G u' us R s h S y=>?_⟩;obtain⟨q,a,cp,b,⟨_,u,d⟩,rfl⟩:=s;have C:news.length=m*sz:=by rw [<-h.len];exact S.newsLen
  by_cases V:0+m<=cp
  ·obtain d|⟨a6,d⟩:=d
   ·omega
   ·subst a6;obtain⟨r,j,p,X⟩:=A90 (H1:=⟨t1,H.n⟩) (H':=H') (N:=I) R D B b (k:=o) h (by omega) L d (by rw [C,<-x,L,<-Nat.add_mul];exact Nat.mul_le_mul_right _ (by omega)) U E (fun a4=>by rw [F a4,x,List.drop_length,List.nil_append]);rw [<-x] at r j X;have e9:q.o+o+0*sz=q.o+o:=by rw [Nat.zero_mul,Nat.add_zero]
    exact A2r (off:=q.o+o) (v:=.o (.s I 0 (0+m) (.j 0 (0+m)))) A V (by rw [e9];exact r) (by rw [e9];exact j) p ⟨_,_,cp,yn rfl,⟨rfl,rfl,zc _,V⟩,rfl⟩ (by rw [e9];exact X) S y
  ·obtain⟨ab,ao,a8⟩:=a;exact A2q A D a1 E F (R.lose U) (olds:=[]) (run_firstCells_some w.drew sz 0 _ 0 cp [] (by simp) (fun a4 v hj=>by cases hj)) (by simp) h (by omega) S y
theorem B1F (A:AppT P t e esz i z) {B:EV} (b:A3x e esz B m news H K=true):∃ C H',K C H'=true/\∀ (w0:World) σ w u u' us,Rep w0 σ H w->VR σ B u->All2 (BR σ) news us->A3y P t tx esz m w0 σ w u u' us C H':=by
 unfold A3x at b;split at b
 ·rename_i n c;obtain⟨f,d⟩:=C2 b;rw [z7] at f;have E:=z8 f.1;have F:=z8 f.2;subst E;subst F;cases h:Nat.beq m 0 with
  | true=>
   rw [h] at d;have:=z8 h;subst this;refine⟨_,_,d,fun w0 σ w u u' us R s p=>?_⟩;cases s;exact A3z A R (zc _) rfl
  | false=>
   rw [h,cond_false] at d;obtain⟨l,G⟩:=C2 d;rw [z7,z7,Bool.not_eq_true'] at l;have r:esz≠0:=fun e=>by rw [e] at l;cases l.2
   have I:A5t none e esz news H (fun N H=>K (.o (.s N 0 (0+m) (.j 0 (0+m)))) H)=true:=by rw [zn];exact G
   obtain⟨U,H',O,Q,S⟩:=A18 I;have Y:=ze l.1.2;have J:m≠0:=fun e=>by rw [e] at h;cases h
   refine⟨_,_,O,fun w0 σ w u u' us R s p=>?_⟩;cases s;exact A2q A r (by omega) Q S R (olds:=[]) (run_firstCells_none w.drew esz 0 0 0) (by simp) p (by omega)
 ·rename_i N o n c;cases h:Nat.beq m 0 with
  | true=>
   rw [h] at b;have:=z8 h;subst this;refine⟨_,_,b,fun w0 σ w u u' us R s p=>?_⟩;have M:=s;obtain⟨q,a,X,_,g,rfl⟩:=s;refine A3z A R ?_ M;cases c with
   | k c=>rw [g.2.1];exact g.2.2
   | j D V=>exact zq g.2.2.1 g.2.2.2
   | z D=>rw [g.1];exact zb _
  | false=>
   rw [h,cond_false] at b;obtain⟨f,d⟩:=C2 b;rw [z7,z7,z7,Bool.not_eq_true'] at f;obtain⟨⟨⟨W,v⟩,x⟩,y⟩:=f;have v:=ze v;have y:=ze y;have r:esz≠0:=fun e=>by rw [e] at x;cases x
   have J:m≠0:=fun e=>by rw [e] at h;cases h
   split at d
   ·rename_i T sz xs L;exact B6S A r (by omega) (by omega) (A2o L) d
   ·cases d
 ·cases b
end
end
end Go.Vx
end
section
namespace Go.Vx
open Go Go.Vc Go.RowKit
section
variable {M:Mach} {P:Program} {E:World->Prop} {F:Tr EV} {H H':Hp} {K:Kt} {σ:Sg} {w0 w:World} {f:Fr} {N:Nat}
theorem A50 {b:Type} {R:b->Bool}:∀ {l:List b},B9R R l=true->∀ a∈l,R a=true
 | [],_,a,x=>by cases x
 | y::l,h,a,x=>by
  obtain⟨c,d⟩:=Bool.and_eq_true_iff.1 (show (R y&&B9R R l)=true from h);cases x with
  | head=>exact c
  | tail _ x=>exact A50 d a x
theorem intSame_eq {k k':IntKind} (h:K7 k k'=true):k=k':=by cases k<;>cases k'<;>first | rfl | cases h
theorem B4J {a b:ByteArray}:eqL a.data.toList b.data.toList=true↔a=b:=by rw [A3r,beq_iff_eq];exact⟨fun h=>by rw [<-A2n a,<-A2n b,h],fun h=>by rw [h]⟩
theorem B6T {d:TypeDesc} {k:Value} (h:B8w d k=true):MapKept.IsKey d k:=by
 unfold B8w at h;split at h
 ·trivial
 ·exact intSame_eq h
 ·cases h
theorem B4K {d:TypeDesc} {a b:Value} {r:Bool} (h:C0v d a b=some r):Instr.sameNow d a b=some r/\(r=true->a=b):=by
 unfold C0v at h;split at h
 ·rename_i a b;cases h;refine⟨?_,fun h=>by rw [B4J.1 h]⟩;show some (a==b)=_;congr 1;rw [Bool.eq_iff_iff,B4J,MapKept.bytes_beq]
 ·rename_i q a q' b;obtain⟨c,e⟩:=B6 h;cases e;have:=intSame_eq c;subst this;refine⟨?_,fun h=>by rw [eqI_iff h]⟩;show (if q=q then some (a==b) else none)=_;rw [yn rfl,A3o]
 ·cases h
theorem A19 {d:TypeDesc} {k:Value}:∀ {s:List (Value × EV × Nat)} {t:List MapEntry} {i:Nat} {j:Option Nat},All2 (MR σ) s t->posK d k s i=some j->(match j with
  | none=>Instr.findNow d k t i=some none
  | some j=>∃ n x e,j=i+n/\s[n]?=some x/\t[n]?=some e/\MR σ x e/\e.key=k/\Instr.findNow d k t i=some (some (j,e.val)))
 | [],[],i,j,_,h=>by cases h;rfl
 | x::s,e::t,i,j,hr,h=>by
  replace h:(match C0v d k x.1 with
   | some true=>some (some i)
   | some false=>posK d k s (i+1)
   | none=>none)=some j:=h
  have b:=hr.1.1;split at h
  ·rename_i c;cases h;obtain⟨a,m⟩:=B4K c;refine⟨0,x,e,rfl,rfl,rfl,hr.1,by rw [b];exact (m rfl).symm,?_⟩;show (match Instr.sameNow d k e.key with
    | some true=>some (some (i,e.val))
    | some false=>Instr.findNow d k t (i+1)
    | none=>none)=_
   rw [b,a]
  ·rename_i c;obtain⟨a,_⟩:=B4K c;have f:Instr.findNow d k (e::t) i=Instr.findNow d k t (i+1):=by
    show (match Instr.sameNow d k e.key with
     | some true=>some (some (i,e.val))
     | some false=>Instr.findNow d k t (i+1)
     | none=>none)=_
    rw [b,a]
   have g:=A19 hr.2 h;cases j with
   | none=>exact f.trans g
   | some j=>
    obtain⟨n,v,l,w,o,p,q,r,u⟩:=g;exact⟨n+1,v,l,by omega,by simpa using o,by simpa using p,q,r,f.trans u⟩
  ·cases h
theorem A51 {i f N c:Nat} {m g:EV} {k:Value} {e:List (Value × EV × Nat)} {j:Option Nat} (b:mapOf M i m g H=some (N,f,k,e,c,j)):
  ∃ t d,M.P.underlying i=some (.map t f)/\M.P.underlying t=some d/\m=.o (.m N)/\g=.o (.l k)/\MapKept.IsKey d k/\H.t.get N=some (.m e c)/\posK d k e 0=some j:=by
 unfold mapOf at b;split at b
 ·rename_i t d v q z h;obtain⟨l,a⟩:=B6 b;split at a
  ·rename_i x r o;split at a
   ·rename_i y p;cases a;unfold C0u at h;split at h
    ·rename_i A w u;split at h
     ·rename_i s n;cases h;exact⟨_,_,u,n,rfl,rfl,B6T l,o,p⟩
     ·cases h
    ·cases h
   ·cases a
  ·cases a
 ·cases b
theorem A52 {v:EV} {p:Bool × List EB} {u:Value} (h:B6D v=some p) (k:VR σ v u):TR σ p u:=by
 cases v with
 | o x=>cases h;exact⟨[u],⟨k,t6⟩,.inr ⟨rfl,rfl⟩⟩
 | a xs=>cases h;obtain⟨c,b,d⟩:=k;exact⟨c,b,.inl ⟨rfl,d⟩⟩
 | t y=>cases h
theorem R0 (v:Value):TR σ (false,[.l v]) v:=⟨[v],⟨rfl,t6⟩,.inr ⟨rfl,rfl⟩⟩
theorem B6U {e:Nat} {d:TD} {v:EV} (t:B7W P e d) (h:C0J d=some v):∃ z,(∀ w,(zeroValue e).run P w=.ok z w)/\∀ σ,VR σ v z:=by
 cases d with
 | none=>cases h
 | int k=>cases h;exact⟨_,G7 t.2,fun _=>rfl⟩
 | str=>cases h;exact⟨_,G7 t.2,fun _=>rfl⟩
 | bool=>cases h;exact⟨_,G7 t.2,fun _=>rfl⟩
 | slice a s=>cases h;exact⟨_,G7 t.2.1,fun _=>rfl⟩
 | one z=>cases h;exact⟨_,G7 t.2.1,fun _=>rfl⟩
 | array n a s z=>cases h;exact⟨_,G7 t.2.1,fun σ=>⟨_,A0X σ z,rfl⟩⟩
 | struct f z=>cases h;exact⟨_,G7 t.2,fun σ=>⟨_,A0X σ z,rfl⟩⟩
def A1g (P:Program) (s:Sem Value) (w0:World) (σ:Sg) (w:World) (v:EV) (H':Hp):Prop:=∃ v' w',s.run P w=.ok v' w'/\∃ τ,Ex σ τ/\VR τ v v'/\Rep w0 τ H' w'
theorem B1G (G:MachOk M E) {t:Nat} {y s:EV} {ok:Bool} (h:A5u M t y s ok H K=true):∃ v H',K v H'=true/\∀ (w0:World) σ w m u,Rep w0 σ H w->VR σ y m->VR σ s u->A1g M.P (Instr.lookup t m u ok) w0 σ w v H':=by
 unfold A5u at h;split at h
 ·rename_i N e W D X j J;obtain⟨kt,Y,r,d,rfl,rfl,p,I,L⟩:=A51 J;split at h
  ·rename_i v hv;have A:∀ (w0:World) σ w m u,Rep w0 σ H w->VR σ (.o (.m N)) m->VR σ (.o (.l W)) u->∃ a,VR σ v a/\(Instr.lookup t m u ok).run M.P w=.ok (if ok then .tuple #[a,.bool j.isSome] else a) w:=fun w0 σ w m u R b k=>by
    obtain⟨q,P,rfl⟩:=b;cases k;obtain⟨q',Z,g,h2,l,F⟩:=R.ent N _ I;rw [P] at g;cases g;have o:=A19 F L;cases j with
    | none=>
     obtain⟨z,Q,S⟩:=B6U (G.lay.ty e) hv;refine⟨z,S σ,?_⟩;simp [Instr.lookup,run_underlying r,MapKept.run_getObj_map l,MapKept.run_checkKey d p,MapKept.run_findKey d o,Q,Result.andThen]
    | some i=>
     obtain⟨n,B,C,x,T,k3,U,k5,V⟩:=o;rw [zn] at x;subst x;replace hv:(match D[i]? with
      | some B=>some B.2.1
      | none=>none)=some v:=hv
     rw [T] at hv;cases hv;refine⟨C.val,U.2.1,?_⟩;simp [Instr.lookup,run_underlying r,MapKept.run_getObj_map l,MapKept.run_checkKey d p,MapKept.run_findKey d V,Result.andThen]
   cases ok with
   | false=>
    rw [cond_false,A2W] at h;refine⟨v,H,h,fun w0 σ w m u R b k=>?_⟩;obtain⟨a,c,f⟩:=A w0 σ w m u R b k;exact⟨_,_,f,σ,Ex.refl _,c,R⟩
   | true=>
    rw [cond_true] at h;split at h
    ·rename_i a0 O;rw [A2W] at h;refine⟨_,H,h,fun w0 σ w m u R b k=>?_⟩;obtain⟨a,c,f⟩:=A w0 σ w m u R b k;exact⟨_,_,f,σ,Ex.refl _,⟨[a,.bool j.isSome],⟨A52 O c,R0 _,t6⟩,rfl⟩,R⟩
    ·cases h
  ·cases h
 ·cases h
theorem Rep.setObj (R:Rep w0 σ H w) {Z a:Ent} (e:H.t.get N=some Z) (l:Z.live=true) {q:Pl} (f:σ N=some q) {g o:Obj} (d:w.heap[q.b]?=some g) (t:∀ j,H'.t.get j=if j=N then some a else H.t.get j)
  (h:EntR w0 σ { w with heap:=w.heap.setIfInBounds q.b o } N a):Rep w0 σ H' { w with heap:=w.heap.setIfInBounds q.b o }:=
 R.turn e l f (by simp) ⟨rfl,rfl,rfl⟩ (fun b c i=>(MapKept.heap_set d).2 b c) t h
theorem B1H {b:Type} (a:Array b) (i:Nat) (f:b->b) {e:b} (c:a[i]?=some e):(a.modify i f).toList=a.toList.set i (f e):=by
 apply List.ext_getElem?;intro j;rw [Array.getElem?_toList,Array.getElem?_modify,List.getElem?_set];by_cases h:i=j
 ·subst h;have l:i<a.size:=(Array.getElem?_eq_some_iff.1 c).1;rw [yn rfl,yn rfl,yn (by simpa using l),c];rfl
 ·rw [yo h,yo h,Array.getElem?_toList]
theorem A0k {f s:List (Value × EV × Nat)} {c l:Nat} (d:H.t.get N=some (.m f c)) (h:A17 N s l H K=true):∃ H',K (lit undef) H'=true/\∀ (w0:World) σ w q n e,Rep w0 σ H w->σ N=some q->w.heap[q.b]?=some (.map n c)->All2 (MR σ) s e.toList->Rep w0 σ H' { w with heap:=w.heap.setIfInBounds q.b (.map e l) }:=by unfold A17 at h;rw [A0q,A0W] at h;obtain⟨t,g,i⟩:=Tr.setK_ok _ _ _ _ h;refine⟨_,g,fun w0 σ w q n e R a b j=>?_⟩;obtain⟨q',_,k,m,_,_⟩:=R.ent N _ d;rw [a] at k;cases k;exact R.setObj (H':=⟨t,H.n⟩) d rfl a b i ⟨q,e,a,m,(MapKept.heap_set b).1,j⟩
theorem B1I {I:Nat} {E D z:EV} (h:A5v M I E D z H K=true):∃ H',K (lit undef) H'=true/\∀ (w0:World) σ w o m u,Rep w0 σ H w->VR σ E o->VR σ D m->VR σ z u->∃ w',(Instr.mapUpdate I o m u).run M.P w=.ok () w'/\Rep w0 σ H' w':=by
 unfold A5v at h;split at h
 ·rename_i N e v Z J a0 O;obtain⟨kt,d,C,j,rfl,rfl,s,l,B⟩:=A51 O;split at h
  ·rename_i i;split at h
   ·rename_i Y S;obtain⟨H',p,r⟩:=A0k l h;refine⟨H',p,fun w0 σ w o m u R y x hv=>?_⟩;obtain⟨q,c,rfl⟩:=y;cases x;obtain⟨q',t,f,T,k,g⟩:=R.ent N _ l;rw [c] at f;cases f;obtain⟨n,x',en,F,G,U,V,W,X⟩:=A19 g B;rw [zn] at F;subst F;rw [S] at G;cases G;have A:t[i]?=some en:=by simpa using U
    have Q:=MapKept.run_keyThatStays (P:=M.P) (w:=w) (d:=d) s;refine⟨_,?_,r w0 σ w q t (t.modify i fun e=>{ e with key:=v,val:=u }) R c k ?_⟩
    ·simp [Instr.mapUpdate,run_underlying C,MapKept.run_getObj_map k,MapKept.run_checkKey j s,MapKept.run_findKey j X,A,W,Q,MapKept.run_setObj_map _ k,Result.andThen]
    ·rw [B1H _ _ _ A];exact g.set (a:=(v,z,Y.2.2)) (b:={ en with key:=v,val:=u }) ⟨rfl,hv,V.2.2⟩ i
   ·cases h
  ·obtain⟨H',p,r⟩:=A0k l h;refine⟨H',p,fun w0 σ w o m u R y x hv=>?_⟩;obtain⟨q,c,rfl⟩:=y;cases x;obtain⟨q',t,f,T,k,g⟩:=R.ent N _ l;rw [c] at f;cases f;have L:=A19 g B;refine⟨_,?_,r w0 σ w q t (t.push { key:=v,val:=u,born:=J }) R c k ?_⟩
   ·simp [Instr.mapUpdate,run_underlying C,MapKept.run_getObj_map k,MapKept.run_checkKey j s,MapKept.run_findKey j L,MapKept.run_setObj_map _ k,Result.andThen]
   ·rw [Array.toList_push];exact All2.append g ⟨⟨rfl,hv,rfl⟩,t6⟩
 ·cases h
theorem All2.erase {c d:Type} {R:c->d->Prop}:∀ {l:List c} {s:List d},All2 R l s->∀ i,All2 R (l.eraseIdx i) (s.eraseIdx i)
 | [],[],_,_=>trivial
 | a::l,b::s,h,0=>h.2
 | a::l,b::s,h,i+1=>⟨h.1,All2.erase h.2 i⟩
theorem B1J {z kt':Nat} {x v:EV} (h:A8g M z x v H K=true):∃ H',K (lit undef) H'=true/\∀ (w0:World) σ w m u T,Rep w0 σ H w->VR σ x m->VR σ v u->∃ w',(Builtin.delete_ #[z,kt'] T #[m,u]).run M.P w=.ok (.tuple #[]) w'/\Rep w0 σ H' w':=by
 unfold A8g at h;split at h
 ·rename_i N e Q L G O C;obtain⟨P,I,s,d,rfl,rfl,p,f,r⟩:=A51 C;split at h
  ·rename_i i;obtain⟨H',g,j⟩:=A0k f h;refine⟨H',g,fun w0 σ w m u T R o l=>?_⟩;obtain⟨q,a,rfl⟩:=o;cases l;obtain⟨q',t,b,D,k,c⟩:=R.ent N _ f;rw [a] at b;cases b;obtain⟨n,W,J,y,S,E,U,V,F⟩:=A19 c r;rw [zn] at y;subst y;refine⟨_,?_,j w0 σ w q t (t.eraseIdxIfInBounds i) R a k ?_⟩
   ·simp [Builtin.delete_,run_underlying s,MapKept.run_getObj_map k,MapKept.run_checkKey d p,MapKept.run_findKey d F,MapKept.run_setObj_map _ k,Result.andThen]
   ·have B:i<t.size:=by have:=(List.getElem?_eq_some_iff.1 E).1;simpa using this
    unfold Array.eraseIdxIfInBounds;rw [dif_pos B,Array.toList_eraseIdx];exact c.erase i
  ·obtain⟨H',g,j⟩:=A0k f h;refine⟨H',g,fun w0 σ w m u T R o l=>?_⟩;obtain⟨q,a,rfl⟩:=o;cases l;obtain⟨q',t,b,D,k,c⟩:=R.ent N _ f;rw [a] at b;cases b;have A:=A19 c r;refine⟨_,?_,j w0 σ w q t t R a k c⟩;simp [Builtin.delete_,run_underlying s,MapKept.run_getObj_map k,MapKept.run_checkKey d p,MapKept.run_findKey d A,MapKept.run_setObj_map _ k,Result.andThen]
 ·cases h
theorem Rep.newObj (R:Rep w0 σ H w) {Z:Ent} {o:Obj} (a:H.t.get N=Option.none) (t:∀ j,H'.t.get j=if j=N then some Z else H.t.get j) (h:EntR w0 (A4u σ N ⟨w.heap.size,0,0⟩) (w.alloc o) N Z):Rep w0 (A4u σ N ⟨w.heap.size,0,0⟩) H' (w.alloc o):=
 R.new ⟨w.heap.size,0,0⟩ ((Below.refl _ w).alloc (zc _) _) (zc _) a t h
theorem A8i {n:Option Nat} {t:Nat} (b:B7J n (.m [] 0) H (fun N H=>K (.o (.m N)) H)=true):∃ v H',K v H'=true/\∀ (w0:World) σ w,Rep w0 σ H w->A1g P (Instr.makeMap t none) w0 σ w v H':=by obtain⟨N,H',c,a,d⟩:=A5y b;refine⟨_,H',c,fun w0 σ w h=>⟨_,_,run_makeMap t w,A4u σ N ⟨w.heap.size,0,0⟩,V3 h a _,⟨⟨w.heap.size,0,0⟩,yn rfl,rfl⟩,h.newObj a d ⟨⟨w.heap.size,0,0⟩,#[],yn rfl,h.below.size,heap_alloc_new w _,t6⟩⟩⟩
theorem B4L {s:Option Nat} {t:Nat} {f:EV} (h:A9u M s t f H K=true):∃ v H',K v H'=true/\∀ (w0:World) σ w m,Rep w0 σ H w->VR σ f m->A1g M.P (Instr.range t m) w0 σ w v H':=by
 unfold A9u at h;split at h
 ·rename_i N a;split at h
  ·rename_i z l j;obtain⟨y,H',g,b,i⟩:=A5y h;refine⟨_,H',g,fun w0 σ w m R o=>?_⟩;obtain⟨q,c,rfl⟩:=o;obtain⟨q',n,d,A,p,B⟩:=R.ent N _ j;rw [c] at d;cases d;have u:∃ k e,M.P.underlying t=some (.map k e):=by
    unfold C0u at a;split at a
    ·rename_i u;exact⟨_,_,u⟩
    ·cases a
   obtain⟨r,e,u⟩:=u;have x:=V3 R b ⟨w.heap.size,0,0⟩;exact⟨_,_,run_range_map w t r e q.b n l u p,_,x,⟨_,yn rfl,rfl⟩,R.newObj b i ⟨_,q,yn rfl,x _ _ c,R.below.size,rfl,heap_alloc_new w _⟩⟩
  ·cases h
 ·cases h
theorem C1z (a b:Nat):Nat.beq a b=(a==b):=by rw [Bool.eq_iff_iff,beq_iff_eq];exact⟨z8,fun h=>by rw [h];exact Nat.beq_refl b⟩
theorem A8j (n:Nat):∀ l:List Nat,C0K n l=l.contains n
 | []=>rfl
 | x::l=>by show (Nat.beq n x||C0K n l)=_;rw [A8j n l,List.contains_cons,C1z]
theorem All2.filter {c d:Type} {R:c->d->Prop} {e:c->Bool} {r:d->Bool} (p:∀ a b,R a b->e a=r b):∀ {l:List c} {s:List d},All2 R l s->All2 R (l.filter e) (s.filter r)
 | [],[],_=>trivial
 | a::l,b::s,h=>by
  rw [List.filter_cons,List.filter_cons,p a b h.1];cases r b with
  | true=>exact⟨h.1,All2.filter p h.2⟩
  | false=>exact All2.filter p h.2
theorem All2.none {b a:Type} {R:b->a->Prop} {u:List a} (h:All2 R [] u):u=[]:=by
 cases u with
 | nil=>rfl
 | cons c u=>exact h.elim
theorem All2.mem {e f:Type} {R:e->f->Prop}:∀ {l:List e} {s:List f},All2 R l s->∀ d∈s,∃ a∈l,R a d
 | [],[],_,d,b=>by cases b
 | a::l,c::s,h,d,b=>by
  cases b with
  | head=>exact⟨a,zv ..,h.1⟩
  | tail _ b=>
   obtain⟨a',g,i⟩:=All2.mem h.2 d b;exact⟨a',zu _ g,i⟩
theorem B6V {O:EV} {V:Bool} {T:Nat} (b:B6E O V H K=true):∃ X H',K X H'=true/\∀ (w0:World) σ w u,Rep w0 σ H w->VR σ O u->A1g P (Instr.next u V T) w0 σ w X H':=by
 unfold B6E at b;split at b
 ·rename_i N;split at b
  ·rename_i M s seen c0 G;split at b
   ·rename_i E o hm;obtain⟨v,c⟩:=C2 b;rw [z7] at v;have L:=ze v.2;have D:∀ (w0:World) σ w u,Rep w0 σ H w->VR σ (.o (.p N 0)) u->∃ q r n,σ N=some q/\σ M=some r/\u=.pointer (some ⟨q.b,0,none⟩)/\w.heap[q.b]?=some (.mapIter (some r.b) s seen.toArray c0)/\w.heap[r.b]?=some (.map n o)/\All2 (MR σ) E n.toList/\(∀ x∈n.toList,x.born<s)/\
      All2 (MR σ) (E.filter fun x=>not (C0K x.2.2 seen)) (leftOf n seen.toArray).toList/\w0.heap.size<=q.b/\q.o=0:=fun w0 σ w u h f=>by
     obtain⟨q,J,rfl⟩:=f;obtain⟨q',r,d,g,k3,k,i⟩:=h.ent N _ G;rw [J] at d;cases d;obtain⟨r',n,t,U,m3,C⟩:=h.ent M _ hm;rw [g] at t;cases t;refine⟨q,r,n,J,g,by rw [k];rfl,i,m3,C,fun x hx=>?_,?_,k3,k⟩
     ·obtain⟨a4,a2,a3⟩:=C.mem x hx;rw [a3.2.2];have:=A50 v.1 a4 a2;exact ze this
     ·unfold leftOf;rw [Array.toList_filter];exact C.filter fun a a5 Z=>by rw [A8j,Z.2.2];simp
    split at c
    ·rename_i y;refine⟨_,H,c,fun w0 σ w u h f=>?_⟩;obtain⟨q,r,n,d,g,rfl,k,i,k6,B,j,R,Q⟩:=D w0 σ w u h f;rw [y] at j;have a0:=j.none;obtain⟨_,z⟩|⟨e,m,_⟩:=run_next_at (P:=P) w T q.b r.b s c0 seen.toArray n o k i B L
     ·exact⟨_,_,z,σ,Ex.refl _,⟨[.bool false],⟨R0 _,t6⟩,rfl⟩,h⟩
     ·rw [a0] at m;cases m
    ·rename_i x y;split at c
     ·rename_i a6 hp;rw [A0q] at c;obtain⟨W,t,U⟩:=Tr.setK_ok _ _ _ _ c;refine⟨_,_,t,fun w0 σ w u h f=>?_⟩;obtain⟨q,r,n,d,g,rfl,k,i,k6,B,j,R,Q⟩:=D w0 σ w u h f;rw [y] at j;obtain⟨e,I,A⟩:=j.one;obtain⟨h0,_⟩|⟨p,m,l,a1,z⟩:=run_next_at (P:=P) w T q.b r.b s c0 seen.toArray n o k i B L
      ·exfalso;have:(leftOf n seen.toArray).toList.length=0:=by simpa using h0
       rw [I] at this;cases this
      ·rw [I] at m;have:p=e:=by simpa using m
       subst this;refine⟨_,_,z,σ,Ex.refl _,⟨[.bool true,p.key,p.val],⟨R0 _,?_,A52 hp A.2.1,t6⟩,rfl⟩,?_⟩
       ·rw [A.1];exact R0 _
       ·have S:∀ l,Rep w0 σ H l->l.heap[q.b]?=some (.mapIter (some r.b) s seen.toArray c0)->Rep w0 σ ⟨W,H.n⟩ (ChangeMaps.setBlock l q.b (.mapIter (some r.b) s (seen.toArray.push p.born) o)):=fun l Y F=>
         Y.setObj (H':=⟨W,H.n⟩) G rfl d F U ⟨q,r,d,g,R,Q,by rw [(MapKept.heap_set F).1,A.2.2];simp⟩
        obtain rfl|rfl:=a1
        ·exact S _ h k
        ·exact S _ h.drew k
     ·cases c
    ·cases c
   ·cases b
  ·cases b
 ·cases b
theorem B4M {i:EV} (h:A9v i H K=true):∃ v H',K v H'=true/\∀ (w0:World) σ w u,Rep w0 σ H w->VR σ i u->A1g P (Instr.entry u) w0 σ w v H':=by
 unfold A9v at h;split at h
 ·rename_i N;split at h
  ·rename_i M V seen c0 o;split at h
   ·rename_i L J b t g;obtain⟨d,c⟩:=C2 h;have l:=z8 d;split at c
    ·rename_i I p;split at c
     ·rename_i S z;rw [A2W] at c;refine⟨_,H,c,fun w0 σ w u R B=>?_⟩;obtain⟨q,A,rfl⟩:=B;obtain⟨q',T,k,C,O,D,E⟩:=R.ent N _ o;rw [A] at k;cases k;obtain⟨U,n,m,Q,F,G⟩:=R.ent M _ t;rw [C] at m;cases m;have s:All2 (MR σ) [I] (n.toList.filter fun e=>e.born==b):=by rw [<-p];exact G.filter fun a e f=>by rw [f.2.2,C1z]
      obtain⟨e,y,x⟩:=s.one;have r:n.find? (fun e=>e.born==b)=some e:=by rw [<-Array.find?_toList,<-List.head?_filter,y];rfl
      have j:seen.toArray.back?=some b:=by rw [List.back?_toArray];exact g
      subst l;refine⟨.tuple #[e.key,e.val],w,?_,σ,Ex.refl _,⟨[e.key,e.val],⟨?_,A52 z x.2.1,t6⟩,rfl⟩,R⟩
      ·rw [show q.o+0=0 from D];simp [Instr.entry,getObj,Sem.run,E,F,j,r,Result.andThen]
      ·rw [x.1];exact R0 _
     ·cases c
    ·cases c
   ·cases h
  ·cases h
 ·cases h
end
end Go.Vx
end
section
namespace Go.Vx
open Go Go.Vc Go.RowKit
section
variable {M:Mach} {P:Program} {E:World->Prop} {F:Tr EV} {H H':Hp} {K:Kt} {σ:Sg} {w0 w:World} {f:Fr} {N:Nat}
theorem A4y {t e:Nat} (h:A5w P t=some e):P.underlying t=some (.slice e)/\P.underlying e=some (.int .u8):=by
 unfold A5w at h;split at h
 ·rename_i b u;split at h
  ·rename_i a;cases h;exact⟨u,a⟩
  ·cases h
 ·cases h
theorem A91 {t:Nat} (h:B1A P t=true):P.underlying t=some .string:=by
 unfold B1A at h;split at h
 ·rename_i e;exact e
 ·cases h
theorem A53 {t e:Nat} (h:B4A P t=some e):P.underlying t=some (.pointer e):=by
 unfold B4A at h;split at h
 ·rename_i u;cases h;exact u
 ·cases h
theorem A92 {t:Nat} (h:B6G P t=true):P.underlying t=some .unsafePointer:=by
 unfold B6G at h;split at h
 ·rename_i u;exact u
 ·cases h
theorem B6W {x:EB} {b:UInt8} {v:Value} (h:B6F x=some b) (k:BR σ x v):v=.int .u8 (b.toNat:Int):=by
 unfold B6F at h;split at h
 ·rename_i n;obtain⟨a,c⟩:=B6 h;cases c;have d:n<256:=ze a;have:v=.int .u8 (.ofNat n):=k;rw [this];have e:(UInt8.ofNat n).toNat=n:=by rw [UInt8.toNat_ofNat'];omega
  rw [e];rfl
 ·cases h
theorem A30:∀ {xs:List EB} {l:List UInt8} {s:List Value},A7T xs=some l->All2 (BR σ) xs s->s=l.map fun b=>.int .u8 (b.toNat:Int)
 | [],l,s,h,k=>by
  cases h;exact k.none
 | x::xs,l,s,h,k=>by
  cases s with
  | nil=>exact k.elim
  | cons c s=>
   replace h:(match B6F x,A7T xs with
    | some b,some r=>some (b::r)
    | _,_=>none)=some l:=h
   split at h
   ·rename_i b r a d;cases h;rw [B6W a k.1,A30 d k.2];rfl
   ·cases h
def C0P (w:World) (u:Value) (l:List UInt8):Prop:=∃ A cap,u=.slice A l.length cap/\(A=none->l=[])/\∀ a,A=some a->∀ j x,l[j]?=some x->w.cell? (a.add j)=some (.int .u8 (x.toNat:Int))
theorem A7a {v:EV} {l:List UInt8} {f:Value} (h:sliceB v H=some l) (R:Rep w0 σ H w) (u:VR σ v f):C0P w f l:=by
 unfold sliceB at h;split at h
 ·obtain⟨t,A⟩:=B6 h;cases A;have:=z8 t;subst this;cases u;exact⟨none,_,rfl,fun _=>rfl,fun a h=>by cases h⟩
 ·rename_i N o n c;obtain⟨q,a,p,I,d,rfl⟩:=u;cases b:Nat.beq n 0 with
  | true=>
   rw [b] at h;cases h;have:=z8 b;subst this;exact⟨some a,p,rfl,fun h=>(by cases h),fun a _ j g x=>by cases x⟩
  | false=>
   rw [b,cond_false] at h;have y:∀ {xs:List EB},rowR H N=some xs->a=⟨q.b,q.o+o,none⟩->cond (Nat.ble (Nat.add o n) xs.length) (A7T ((xs.drop o).take n)) none=some l->C0P w (.slice (some a) n p) l:=fun r E B=>by
    obtain⟨C,D⟩:=B6 B;obtain⟨q',i,e,J,K,L⟩:=R.rowR r o n (ze C);rw [I] at e;cases e;subst E;have s:=A30 D J;have G:l.length=n:=by rw [<-K,s,zl]
    refine⟨_,p,by rw [G],fun h=>(by cases h),fun a' F j g x=>?_⟩;cases F;have:=K9 i 0 L j (.int .u8 (g.toNat:Int)) (by rw [s,List.getElem?_map,x];rfl);rwa [zn] at this
   cases r:rowR H N with
   | none=>rw [r] at h;cases c<;>cases h
   | some xs=>
    rw [r] at h;cases c with
    | k c=>exact y r d.1 h
    | j m M=>exact y r d.1 h
    | z m=>cases h
 ·cases h
theorem A7b {g T:Nat} {c:List Value} (h:Blk w g T c):w.shape? g=some (T,c.length):=by unfold World.shape?;rw [show w.heap[g]?=_ from h];simp
theorem B6X {nm:Option Nat} {p l:Nat} {D:EV} (d:B6H M nm p l D H K=true):∃ O H',K O H'=true/\∀ (w0:World) σ w u,Rep w0 σ H w->VR σ D u->A1g M.P (Go.convert p l u) w0 σ w O H':=by
 unfold B6H at d;split at d
 ·rename_i b;split at d
  ·rename_i e v;obtain⟨n,z⟩:=A4y v;obtain⟨m,f⟩:=C2 d;rw [z7] at m;have s:=A91 m.1;have a1:=ze m.2;rw [A0q] at f;obtain⟨N,H',g,r,P⟩:=A5y f;rw [A0W] at g;refine⟨_,H',g,fun w0 σ w u h i=>?_⟩;cases i;have G:b.size=b.data.toList.length:=by rw [Array.length_toList];rfl
   have Q:b.size<=maxLen:=by simp only [maxLen];omega
   have Y:=V3 h r ⟨w.heap.size,0,grownCap w b.size 0 e⟩;have U:Rep w0 (A4u σ N ⟨w.heap.size,0,grownCap w b.size 0 e⟩) H' (Lib.bytesWorld w e b):=h.new _ (Lib.bytesWorld_below w e b) (zc _) r P ⟨_,b.data.toList.map fun c=>.int .u8 (c.toNat:Int),yn rfl,h.below.size,⟨by rw [Lib.bytesWorld_size];exact Nat.lt_succ_self _,grownCap_le_maxLen w b.size 0 e Q⟩,
    All2.map (R:=BR _) (fun c:UInt8=>EB.l (.int .u8 (.ofNat c.toNat))) (fun c=>Value.int .u8 (c.toNat:Int)) (fun c=>rfl) b.data.toList,fun k D j=>by
     have F:k<b.data.toList.length:=by
      obtain d|d:=zm k b.data.toList.length
      ·exact d
      ·rw [List.getElem?_eq_none (by rw [zl];exact d)] at j;cases j
     rw [List.getElem?_map,yc F] at j;cases j;show (Lib.bytesWorld w e b).cell? ⟨w.heap.size,0+k,none⟩=_;rw [zn,Lib.bytesWorld_cell w e b k (by omega),List.getD_eq_getElem?_getD,yc F];rfl⟩
   refine⟨_,_,Lib.run_convert_string_bytes w p l e b s n z,_,Y,⟨_,_,_,yn rfl,⟨rfl,rfl,zc _,?_⟩,?_⟩,U⟩
   ·rw [zl,<-G];exact grownCap_ge w b.size 0 e
   ·rw [zl,<-G];rfl
  ·cases d
 ·rename_i N o;split at d
  ·rename_i T xs v;obtain⟨m,f⟩:=C2 d;have V:o<xs.length:=ze m;have L:∀ (w0:World) σ w u,Rep w0 σ H w->VR σ (.o (.p N o)) u->∃ q:Pl,u=.pointer (some ⟨q.b,o,none⟩)/\w.shape? q.b=some (T,xs.length):=fun w0 σ w u h i=>by obtain⟨q,W,rfl⟩:=i;obtain⟨q',a0,cs,I,J,B,k4,k5,k6,k7⟩:=h.ent N _ v;rw [W] at I;cases I;obtain⟨k8,k9⟩:=k4 rfl;refine⟨q,by rw [k8,zn],?_⟩;rw [A7b B,k9]
   split at f
   ·rename_i t s n;obtain⟨g,r⟩:=C2 f;rw [z7] at g;refine⟨_,H,r,fun w0 σ w u h i=>?_⟩;obtain⟨q,rfl,A⟩:=L w0 σ w u h i;have x:=g.2;unfold B7K at x;split at x
    ·rename_i k j;have Z:k.size≠0:=fun e=>by rw [e] at x;cases x
     exact⟨_,_,Lib.run_to_unsafe w _ (A53 s) (A92 g.1) j Z A V,σ,Ex.refl _,i,h⟩
    ·cases x
   ·rename_i u' s n;obtain⟨g,r⟩:=C2 f;simp only [z7] at g;refine⟨_,H,r,fun w0 σ w u h i=>?_⟩;obtain⟨q,rfl,A⟩:=L w0 σ w u h i;obtain⟨k,j⟩:=Option.isSome_iff_exists.1 g.1.2;exact⟨_,_,Lib.run_from_unsafe w _ (A92 g.1.1) (A53 n) j A g.2,σ,Ex.refl _,i,h⟩
   ·cases f
  ·cases d
 ·obtain⟨m,f⟩:=C2 d;have n:=A91 m;split at f
  ·rename_i e C v S;obtain⟨s,z⟩:=A4y v;rw [A0q] at f;refine⟨_,H,f,fun w0 σ w u h i=>?_⟩;obtain⟨E,y,rfl,J,B⟩:=A7a S h i;have X:(Go.convert p l (.slice E C.length y)).run M.P w=.ok (.string ⟨C.toArray⟩) w:=by
    cases E with
    | none=>
     have:=J rfl;subst this;show (Go.convert p l (.slice none 0 y)).run M.P w=_;rw [run_convert_bytes_string w p l e none 0 y s z n];rfl
    | some a=>exact run_convert_bytes_back w p l e a y C s z n fun k j=>B a rfl k _ (yc j)
   exact⟨_,_,X,σ,Ex.refl _,rfl,h⟩
  ·cases f
theorem B6Y {v:EV} (h:B8x v H K=true):∃ m H',K m H'=true/\∀ (w0:World) σ w u t T,Rep w0 σ H w->VR σ v u->A1g P (Builtin.unsafeSliceData_ t T #[u]) w0 σ w m H':=by
 unfold B8x at h;split at h
 ·refine⟨_,H,h,fun w0 σ w u t T R g=>?_⟩;cases g;exact⟨_,_,Lib.run_unsafeSliceData_nil w t T _ _,σ,Ex.refl _,rfl,R⟩
 ·rename_i N o n c;obtain⟨d,s⟩:=C2 h;refine⟨_,H,s,fun w0 σ w u t T R g=>?_⟩;obtain⟨q,a,p,A,f,rfl⟩:=g;have y:p≠0/\a=⟨q.b,q.o+o,none⟩:=by
   unfold B7L at d;cases c with
   | k c=>
    refine⟨fun e=>?_,f.1⟩;have b:(!Nat.beq c 0)=true:=d;rw [<-f.2.1,e] at b;cases b
   | j r i=>
    refine⟨fun e=>?_,f.1⟩;have b:(!Nat.beq i 0)=true:=d;have l:=f.2.2.2;rw [e] at l;have:i=0:=Nat.le_zero.1 l;rw [this] at b;cases b
   | z r=>cases d
  obtain⟨x,rfl⟩:=y;exact⟨_,_,Lib.run_unsafeSliceData_row w t T _ n p x,σ,Ex.refl _,⟨q,A,rfl⟩,R⟩
 ·cases h
theorem B1K {e:TypeId} (a:P.cellsOf e=1) (c o n:Nat) (b:o+n<=c):liesAt P P.depth e c o e n=true:=by have h:P.depth=(2*(P.types.size+Made.depth)+1)+1:=rfl;rw [h];simp only [liesAt,Bool.or_eq_true];left;rw [h];simp [rowAt,a,b,sameLayout];exact .inl (Nat.mod_one o)
theorem B6Z {p it ty e:TypeId} (u:P.underlying p=some (.pointer e)) (h:P.cellsOf e=1) {g o c:Nat} (v:w.shape? g=some (e,c)) (l:List UInt8) (a:l≠[]) (r:o+l.length<=c) (y:l.length<=9223372036854775807)
  (d:∀ j x,l[j]?=some x->w.cell? ((⟨g,o,none⟩:Addr).add j)=some (.int .u8 x.toNat)):
  (Builtin.unsafeString_ #[p,it] ty #[.pointer (some ⟨g,o,none⟩),.int .i64 l.length]).run P w=.ok (.string ⟨l.toArray⟩) (w.freeze ⟨g,o,none⟩ l.length):=by
 have i:l.length≠0:=by simpa using a
 have k:=Lib.run_loadBytes (P:=P) w l ⟨g,o,none⟩ .empty d;have m:=B1K (P:=P) h (c / P.cellsOf e) o l.length (by rw [h];simpa using r);have b:¬ (9223372036854775807:Int)<(l.length:Int):=by omega
 have f:Builtin.unsafeString_ #[p,it] ty #[.pointer (some ⟨g,o,none⟩),.int .i64 l.length]=
   (do
    let n <-asInt (.int .i64 l.length)
    if n<0 then runtimePanic (.error "unsafe.String: len out of range")
    if n > IntKind.i64.max then unsupported (.unsafePointer "String: a length above the largest int")
    if n=0 then pure (.string .empty)
    else if <-variablesAt ⟨g,o,none⟩ (<-Go.elemOf p) n.toNat then do
     let s <-loadBytes ⟨g,o,none⟩ .empty n.toNat
     freeze ⟨g,o,none⟩ n.toNat
     pure (.string s)
    else unsupported (.unsafePointer "String: not so many bytes at ptr")):=rfl
 rw [f];have q:IntKind.i64.max=9223372036854775807:=rfl;have t:¬ (l.length:Int)<0:=by omega
 simp [asInt,asIntOf,q,b,t,i,variablesAt,v,Go.elemOf,run_underlying u,m,k]
theorem A7c {p:Addr} {n b:Nat} (h:b≠p.block):(w.freeze p n).heap[b]?=w.heap[b]?:=by
 unfold World.freeze;split
 ·rfl
 ·simp only [Array.getElem?_modify];rw [yo (fun e=>h e.symm)]
theorem A8k {p:Addr} {n:Nat} (a:Addr):(w.freeze p n).cell? a=w.cell? a:=by
 unfold World.freeze;split
 ·rfl
 ·have y:∀ (f:Obj->Obj),(∀ c e z,∃ b,f (.cells c e z)=.cells c e b)->(∀ o,(∀ c e z,o≠.cells c e z)->f o=o)->({ w with heap:=w.heap.modify p.block f }:World).cell? a=w.cell? a:=fun f g i=>by
   show (match (w.heap.modify p.block f)[a.block]? with
    | some (.cells c _ _)=>if a.spot.isSome then none else c[a.off]?
    | _=>none)=_
   rw [Array.getElem?_modify];unfold World.cell?;by_cases h:p.block=a.block
   ·rw [yn h];cases w.heap[a.block]? with
    | none=>rfl
    | some o=>
     cases o
     case cells c e z=>
      obtain⟨b,j⟩:=g c e z;rw [Option.map_some,j]
     all_goals
      rw [Option.map_some,i _ (fun c e z d=>by cases d)]
   ·rw [yo h];rfl
  refine y _ (fun c e z=>⟨_,rfl⟩) (fun o k=>?_);cases o<;>first | rfl | exact absurd rfl (k _ _ _)
theorem A8l {p:Addr} {n:Nat}:(w.freeze p n).os=w.os/\(w.freeze p n).tape=w.tape/\(w.freeze p n).output=w.output/\(w.freeze p n).heap.size=w.heap.size:=by
 unfold World.freeze;split
 ·exact⟨rfl,rfl,rfl,rfl⟩
 ·exact⟨rfl,rfl,rfl,by simp⟩
theorem B6a {t it:Nat} {p:EV} {n:Int} (h:B8y M t p n H K=true):∃ C H',K C H'=true/\∀ (w0:World) σ w a T,Rep w0 σ H w->VR σ p a->A1g M.P (Builtin.unsafeString_ #[t,it] T #[a,.int .i64 n]) w0 σ w C H':=by
 unfold B8y at h;split at h
 ·rename_i n;cases b:Nat.beq n 0 with
  | true=>
   rw [b,cond_true] at h;have:=z8 b;subst this;split at h
   ·refine⟨_,H,h,fun w0 σ w a T R u=>?_⟩;cases u;exact⟨_,_,Lib.run_unsafeString_none w t it T none,σ,Ex.refl _,rfl,R⟩
   ·refine⟨_,H,h,fun w0 σ w a T R u=>?_⟩;obtain⟨q,d,rfl⟩:=u;exact⟨_,_,Lib.run_unsafeString_none w t it T (some _),σ,Ex.refl _,rfl,R⟩
   ·cases h
  | false=>
   rw [b,cond_false] at h;split at h
   ·rename_i N o;split at h
    ·rename_i T' sz xs e hr hp;obtain⟨m,c⟩:=C2 h;simp only [z7,Bool.not_eq_true'] at m;obtain⟨⟨⟨⟨D,E⟩,g⟩,F⟩,G⟩:=m;have L:=z8 D;subst L;have hn:o+n<=xs.length:=ze F;have a4:=ze G;have hz:sz≠0:=fun e=>by rw [e] at g;cases g
     split at c
     ·rename_i l Y;rw [A0q] at c;obtain⟨t',U,V⟩:=Tr.setK_ok _ _ _ _ c;refine⟨_,_,U,fun w0 σ w a T R u=>?_⟩;obtain⟨q,d,rfl⟩:=u;have f:=A2o hr;obtain⟨q0,J,B,m2,m3,m4⟩:=R.row f o n hn;obtain⟨q',r,I,y,k2,k,k4,k5,z,A⟩:=R.ent N _ f;rw [show σ N=some q from d] at y B;cases y;cases B;have s:=A30 Y m2;have Z:l.length=n:=by rw [<-m3,s,zl]
      subst Z;have a5:=z.len;have x:l≠[]:=fun e=>by rw [e] at b;cases b
      have W:q.o+o+l.length<=r.length:=by
       have a6:0<l.length:=List.length_pos_iff.2 x;have:=A (o+l.length-1) _ (yc (by omega));obtain v|v:=zm (q.o+(o+l.length-1)) r.length
       ·omega
       ·rw [List.getElem?_eq_none v] at this;cases this
      have a0:=B6Z (P:=M.P) (w:=w) (it:=it) (ty:=T) (A53 hp) (z8 E) (A7b k) l x W (by omega) (fun j a2 hx=>by have:=K9 J 0 m4 j (.int .u8 (a2.toNat:Int)) (by rw [s,List.getElem?_map,hx];rfl);rwa [zn] at this);refine⟨_,_,a0,σ,Ex.refl _,rfl,?_⟩;obtain⟨O,Q,S,i⟩:=A8l (w:=w) (p:=⟨q.b,q.o+o,none⟩) (n:=l.length);exact R.turn (H':=⟨t',H.n⟩) f rfl d (Nat.le_of_eq i.symm) ⟨O,Q,S⟩ (fun a3 b _=>A7c b) V ⟨q,I,d,k2,⟨by rw [i];exact k.lt,(k5 hz).2⟩,z,fun j a1 X=>by rw [A8k,k.cell];exact A j a1 X⟩
     ·cases c
    ·cases h
   ·cases h
 ·cases h
theorem B4N {f:Nat} {d:TD} {z:Value} {i:TypeInfo} (h:B7W P f d) (g:d.isAgg=false) (b:d.zero=[z]) (o:P.info? f=some i):i.zero=some z/\i.size=1/\z.cells=#[z]:=by
 have e:∀ {a:Value},szV P f 1 a->a=z->a.cells=#[a]->i.zero=some z/\i.size=1/\z.cells=#[z]:=fun c l m=>by subst l;unfold szV at c;rw [o] at c;simp at c;exact⟨c.2,c.1,m⟩
 cases d with
 | none=>cases b
 | int k=>cases b;exact e h.2 rfl rfl
 | str=>cases b;exact e h.2 rfl rfl
 | bool=>cases b;exact e h.2 rfl rfl
 | slice j s=>cases b;exact e h.2.1 rfl rfl
 | one a=>cases b;exact e h.2.1 rfl h.2.2
 | array n j s a=>cases g
 | struct p a=>cases g
theorem B6b (z:Value) (c:Nat):madeCells #[z] c=(List.replicate c z).toArray:=by
 apply Array.ext
 ·simp [madeCells]
 ·intro j h a;simp [madeCells,Nat.mod_one]
theorem B6c (j:MachOk M E) {T:Option Nat} {t:Nat} {m c:EV} (h:B6I M T t m c H K=true):∃ o H',K o H'=true/\∀ (w0:World) σ w u u',Rep w0 σ H w->VR σ m u->VR σ c u'->A1g M.P (Instr.makeSlice t u u') w0 σ w o H':=by
 unfold B6I at h;split at h
 ·rename_i S n Q c e esz F;split at h
  ·rename_i i z k G O;obtain⟨g,x⟩:=C2 h;simp only [z7] at g;obtain⟨⟨⟨b,a⟩,f⟩,d⟩:=g;have b:=ze b;have a:=ze a;have f:=z8 f;have d:=ze d;obtain⟨N,H',y,A,B⟩:=A18 x;refine⟨_,H',y,fun w0 σ w u u' R J L=>?_⟩;cases J;cases L;have l:=j.lay.ty t;rw [F] at l;have v:=B4N (j.lay.ty e) G O k;have C:(i.bytes:Int)*(c:Int)<=281474976710656:=by have:i.bytes*c<=4096*10000:=Nat.mul_le_mul d a;have:((i.bytes*c:Nat):Int)<=((4096*10000:Nat):Int):=Int.ofNat_le.2 this;rw [Int.natCast_mul] at this;omega
   have r:=run_makeSlice (P:=M.P) (w:=w) t e i z l.1 k v.1 S Q (n:Int) (c:Int) (Int.natCast_nonneg n) (by omega) (by rw [zi,v.2.1];omega) C (by omega);rw [zi,zi,v.2.1,Nat.mul_one] at r;have D:madeCells z.cells c=(List.replicate c z).toArray:=by rw [v.2.2];exact B6b z c
   rw [D] at r;have I:All2 (BR σ) (List.replicate c (EB.l z)) (List.replicate c z):=by have:=A0X σ (List.replicate c z);rwa [List.map_replicate] at this
   obtain⟨p,q,s⟩:=R.alloc I (⟨rfl,rfl⟩:New w (List.replicate c z) e w.heap.size _) A B;exact⟨_,_,r,_,p,⟨_,_,c,q,⟨rfl,rfl,b⟩,rfl⟩,s⟩
  ·cases h
 ·cases h
end
end Go.Vx
end
section
namespace Go.Vx
open Go Go.Vc Go.RowKit
section
variable {M:Mach} {E:World->Prop} {F:Tr EV} {H:Hp} {K:Kt} {σ:Sg} {w0 w:World} {f:Fr}
theorem B6d {P:Program} {e:Nat} {d:TD} {z:Value} (a:B7W P e d) (g:d.isAgg=false) (h:d.zero=[z]) (w:World):(zeroValue e).run P w=.ok z w:=by
 cases d with
 | none=>cases h
 | int k=>cases h;exact G7 a.2 w
 | str=>cases h;exact G7 a.2 w
 | bool=>cases h;exact G7 a.2 w
 | slice c s=>cases h;exact G7 a.2.1 w
 | one b=>cases h;exact G7 a.2.1 w
 | array n c s b=>cases g
 | struct f b=>cases g
def C0Q (P:Program) (b:Builtin) (ats:List Nat) (T:Nat) (cs:Array Bool) (us:List Value) (w0:World) (σ:Sg) (w:World) (v:EV) (H':Hp):Prop:=∃ v' w',(builtin b ats.toArray T cs us.toArray).run P w=.ok (.value v') w'/\∃ τ,Ex σ τ/\VR τ v v'/\Rep w0 τ H' w'
theorem C0R (Z:MachOk M E) {G:Builtin} {W:List Nat} {U:List EV} (b:xBu M G W U H K=true):∃ v H',K v H'=true/\∀ (w0:World) σ w us T y,Rep w0 σ H w->All2 (VR σ) U us->C0Q M.P G W T y us w0 σ w v H':=by
 unfold xBu at b;split at b
 ·rename_i t tx s b0;split at b
  ·rename_i e esz he;obtain⟨f,h⟩:=C2 b;obtain⟨i,z,hA⟩:=B85 f;split at h
   ·rename_i m news F;rw [A0W,A0q] at h;have a5:B7I news=true\/news=[]\/m=0:=by
     by_cases D:m=0
     ·exact .inr (.inr D)
     ·have O:Nat.beq m 0=false:=by
       cases O:Nat.beq m 0 with
       | false=>rfl
       | true=>exact absurd (z8 O) D
      unfold A3x at h;rw [O] at h;split at h
      ·obtain⟨_,L⟩:=C2 h;obtain⟨B,_⟩:=C2 L;rw [z7,z7] at B;exact .inl B.1.1
      ·obtain⟨B,_⟩:=C2 h;rw [z7,z7,z7] at B;exact .inl B.1.1.1
      ·cases h
    have a3:A3x e esz s m news H (fun v H=>fV v fun v=>K v H)=true:=h;obtain⟨v,H',C,Q⟩:=B1F (tx:=tx) hA a3;rw [A2W] at C;refine⟨v,H',C,fun w0 σ w us T y R x=>?_⟩;obtain⟨u,u',rfl,d,A⟩:=x.two;have a4:∃ us,Src M.P esz tx u' m us w/\All2 (BR σ) news us:=by
     obtain g|g:=a5
     ·exact A9y F g R A
     ·exact A9y F (by
       have:news=[]:=by
        obtain g|g:=g
        ·exact g
        ·subst g;have:=B4I F;rw [Nat.zero_mul] at this;exact zo this
       rw [this];rfl) R A
    obtain⟨ws,hS,hw⟩:=a4;obtain⟨S,w',r,τ,p,r3,r4⟩:=Q w0 σ w u u' ws R d hw hS T;refine⟨S,w',?_,τ,p,r3,r4⟩;show (do pure (Next.value (<-Builtin.append_ #[t,tx] T #[u,u'])):Sem Next).run M.P w=_;simp only [yf,r,ye,yg]
   ·cases h
  ·cases b
 ·rename_i t kt m k;obtain⟨H',f,h⟩:=B1J (kt':=kt) b;refine⟨_,H',f,fun w0 σ w us T y R x=>?_⟩;obtain⟨u,u',rfl,d,A⟩:=x.two;obtain⟨w',r,p⟩:=h w0 σ w u u' T R d A;refine⟨_,w',?_,σ,Ex.refl _,rfl,p⟩;show (do pure (Next.value (<-Builtin.delete_ #[t,kt] T #[u,u'])):Sem Next).run M.P w=_;simp only [yf,r,ye,yg];rfl
 ·rename_i ty v;obtain⟨S,H',f,h⟩:=B6Y (P:=M.P) b;refine⟨_,H',f,fun w0 σ w us T y R x=>?_⟩;obtain⟨u,rfl,d⟩:=x.one;obtain⟨u',w',r,p⟩:=h w0 σ w u #[ty] T R d;refine⟨u',w',?_,p⟩;show (do pure (Next.value (<-Builtin.unsafeSliceData_ #[ty] T #[u])):Sem Next).run M.P w=_;simp only [yf,r,ye,yg]
 ·rename_i pt it b3 n;obtain⟨S,H',f,h⟩:=B6a (it:=it) b;refine⟨_,H',f,fun w0 σ w us T y R x=>?_⟩;obtain⟨u,u',rfl,d,A⟩:=x.two;cases A;obtain⟨u',w',r,p⟩:=h w0 σ w u T R d;refine⟨u',w',?_,p⟩;show (do pure (Next.value (<-Builtin.unsafeString_ #[pt,it] T #[u,.int .i64 n])):Sem Next).run M.P w=_;simp only [yf,r,ye,yg]
 ·rename_i t N o n c;split at b
  ·rename_i e esz T sz U he hr;split at b
   ·rename_i z hz;obtain⟨f,h⟩:=C2 b;rw [A0q] at h;obtain⟨t',g,L⟩:=Tr.setK_ok _ _ _ _ h;simp only [z7,Bool.not_eq_true'] at f;obtain⟨⟨⟨⟨⟨b1,b6⟩,X⟩,I⟩,b4⟩,b5⟩:=f;refine⟨_,_,g,fun w0 σ w us V y R x=>?_⟩;obtain⟨u,rfl,d⟩:=x.one;obtain⟨q,a,Y,hq,hc,rfl⟩:=d;have ha:a=⟨q.b,q.o+o,none⟩:=by
     cases c with
     | k c=>exact hc.1
     | j a2 G=>exact hc.1
     | z a2=>cases b5
    subst ha;have F:n≠0:=fun e=>by rw [e] at X;cases X
    have a6:All2 (BR σ) (List.replicate n (EB.l z)) (List.replicate n z):=by have:=A0X σ (List.replicate n z);rwa [List.map_replicate] at this
    obtain⟨q',C,Q,k3⟩:=R.store (H':=⟨t',H.n⟩) (A2o hr) a6 (fun u d=>by rw [List.eq_of_mem_replicate d];exact I) (by rw [List.length_replicate];exact ze b4) L;rw [hq] at C;cases C;have cells:∀ (us:List Value) (k:Nat),E0 w ⟨q.b,q.o+o,none⟩ us k->∀ j,j<us.length->(w.cell? ⟨q.b,q.o+o+(k+j),none⟩).isSome=true/\w.frozen? ⟨q.b,q.o+o+(k+j),none⟩=false:=by
     intro us;induction us with
     | nil=>intro k _ j l;cases l
     | cons u us ih=>
      intro k D j l;obtain⟨⟨b0,a0⟩,a1,b2,a9⟩:=D;cases j with
      | zero=>
       rw [yi] at a0 a1;exact⟨by rw [Nat.add_zero,a0];rfl,a1⟩
      | succ j=>
       have:=ih (k+1) a9 j (by rw [zj] at l;omega);rwa [show k+1+j=k+(j+1) by omega] at this
    have J:=cells _ 0 Q;rw [List.length_replicate] at J;have a8:=Z.lay.ty e;have a7:=Lib.run_clear_slice (P:=M.P) w t e V z (by
     have:=Z.lay.ty t;rw [A7Y he] at this;exact this.1) (B6d a8 b6 hz) (A7L I) I q.b (q.o+o) n Y (by omega)
     (fun j l=>by have:=(J j l).1;rwa [zn] at this) (fun j l=>by have:=(J j l).2;rwa [zn] at this)
    refine⟨_,_,?_,σ,Ex.refl _,rfl,k3 _ (A05 q.b (q.o+o) 0 (List.replicate n z) w)⟩;show (do pure (Next.value (<-Builtin.clear_ #[t] V #[.slice (some ⟨q.b,q.o+o,none⟩) n Y])):Sem Next).run M.P w=_;simp only [yf,a7,ye,yg];rfl
   ·cases b
  ·cases b
 ·cases b
end
end Go.Vx
end
