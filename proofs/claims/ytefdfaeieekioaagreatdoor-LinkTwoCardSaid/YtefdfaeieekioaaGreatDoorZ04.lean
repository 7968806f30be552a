import Derived.Test.YtefdfaeieekioaaGreatDoorZ03
import Derived.Laws.StructEq
set_option maxRecDepth 100000
set_option maxHeartbeats 40000000
set_option linter.unusedVariables false
set_option linter.unusedSimpArgs false
namespace Go.Proofs.YtefdfaeieekioaaGreatDoor
open Go.Vc Go.RowKit Go.Fl
theorem A21:∀ (s:List UInt8) (i n:Nat),i<=7->n<10 ^ i->(O6 s i n).1<10000000/\(O6 s i n).2.1<=8/\0<=(O6 s i n).2.2/\(O6 s i n).2.2<=2
 | [],i,n,_,_=>by rw [O6];simp
 | c::r,i,n,hi,hn=>by
  rw [O6];split
  ·have:10 ^ i<=10 ^ 7:=Nat.pow_le_pow_right (by decide) hi;simp only;omega
  ·split
   ·simp
   ·rename_i h;have hd:dgt c=true:=by
     cases e:dgt c
     ·exact absurd (.inl e) h
     ·rfl
    have hd:=L7.1 hd;have h7:¬ 7<=i:=fun e=>h (.inr (.inl e));exact A21 r (i+1) _ (by omega) (by rw [Nat.pow_succ];omega)
def ResG (q:V × Nat × Int) (w:World) (e:Ending) (w':World):Prop:=∃ cs,e=.returned (.tuple #[.agg cs.toArray,.int .i64 (q.2.1:Nat),.int .i64 q.2.2])/\Below w.heap.size w w'/\RepC (ext no w w') w' q.1 cs
theorem ResG.err {w w':World} (hb:Below w.heap.size w w') (e:Int):ResG (V0,0,e) w (.returned (.tuple #[.agg #[.int .i64 0,.int .i64 0,.string ⟨#[]⟩,.slice none 0 0],.int .i64 0,.int .i64 e])) w':=
 ⟨[.int .i64 0,.int .i64 0,.string ⟨#[]⟩,.slice none 0 0],rfl,hb,RepC.V0 _ _⟩
theorem B4y:∀ f:Nat,f<=6->B8p f:=by
 intro f;induction f with
 | zero=>
  intro _ t depth w hd ht hw;show Calls _ _ _ _ (ResG (J5 0 t) w);refine vE Tryz.func221 ?_;have hc:=Ctx.start w no (fun _ h=>h.elim);refine hc.n fun gA wgA hgA hc=>?_;refine hc.q (A4t t ht _) fun w3 h3 hc=>?_;have eg:J5 0 t=if (O6 t 0 0).2.2≠0 then (V0,0,(O6 t 0 0).2.2) else (V0,0,1):=by rw [J5]
  rw [eg];generalize O6 t 0 0=q at*;obtain⟨n,a,e⟩:=q;simp only;by_cases he:e=0
  ·subst he;refine dt (by omega) ?_;refine hc.s 0 rfl fun wS hS hc=>?_;refine hc.a 0 rfl rfl ?_;exact ResG.err hc.below 1
  ·refine B0 (by show (e != 0)=true;simpa using he) ?_;refine hc.s 0 rfl fun wS hS hc=>?_;refine hc.a 0 rfl rfl ?_;rw [y6 he];exact ResG.err hc.below e
 | succ f ih=>
  intro hf t depth w hd ht hw;have ih:=ih (by omega);show Calls _ _ _ _ (ResG (J5 (f+1) t) w);refine vE Tryz.func221 ?_;intro g4 w1 h1;have hc:=((Ctx.start w no (fun _ h=>h.elim)).loc h1).1;refine hc.q (A4t t ht _) fun w3 h3 hc=>?_;have hr:=A21 t 0 0 (zb _) Nat.one_pos;have eg:J5 (f+1) t=if (O6 t 0 0).2.2≠0 then (V0,0,(O6 t 0 0).2.2) else if t.length<=(O6 t 0 0).2.1+(O6 t 0 0).1 then (V0,0,2)
    else match X7 (J5 f) (t.getD ((O6 t 0 0).2.1+(O6 t 0 0).1) 0) ((t.drop (O6 t 0 0).2.1).take (O6 t 0 0).1) with
     | none=>(V0,0,1)
     | some v=>(v,(O6 t 0 0).2.1+(O6 t 0 0).1+1,0):=by first | (rw [J5];done) | (rw [J5];rfl)
  rw [eg];clear eg;generalize O6 t 0 0=q at*;obtain⟨n,a,e⟩:=q;simp only at hr ⊢;by_cases he:e=0;rotate_left
  ·refine B0 (by show (e != 0)=true;simpa using he) ?_;refine hc.s 0 rfl fun wS hS hc=>?_;refine hc.a 0 rfl rfl ?_;rw [y6 he];exact ResG.err hc.below e
  subst he;refine df (by omega) ?_;have hwr:IntKind.i64.wrap ((a:Int)+(n:Int))=((a+n:Nat):Int):=by rw [E0 _ _ (by omega) (by omega)];rfl
  simp only [ne_eq,not_true_eq_false,if_false];have hsz:(((⟨t.toArray⟩:ByteArray).size:Nat):Int)=t.length:=by rw [G4]
  by_cases hlen:t.length<=a+n
  ·refine dt (by rw [hsz,hwr];omega) ?_;refine hc.s 0 rfl fun wS hS hc=>?_;refine hc.a 0 rfl rfl ?_;rw [y6 hlen];exact ResG.err hc.below 2
  refine df (by rw [hsz,hwr];omega) ?_;rw [y7 hlen];refine⟨⟨by omega,by rw [hwr];omega,by rw [hsz,hwr];omega⟩,?_⟩;have ex:(⟨t.toArray⟩:ByteArray).extract (a:Int).toNat (IntKind.i64.wrap ((a:Int)+(n:Int))).toNat=⟨((t.drop a).take n).toArray⟩:=by rw [P8,hwr,zh,zh,Nat.add_sub_cancel_left]
  generalize (⟨t.toArray⟩:ByteArray).extract (a:Int).toNat (IntKind.i64.wrap ((a:Int)+(n:Int))).toNat=sub at ex ⊢;subst ex;have hbl:((t.drop a).take n).length<=1073741824:=by rw [zf,zg];omega
  generalize (t.drop a).take n=b at hbl ⊢;refine hc.n fun g10 w4 h4 hc=>?_;refine⟨hc.may 0 rfl 0 _ (zc 4) rfl,?_⟩;intro w5 h5;have hc:=(hc.set 0 rfl h5).1;refine⟨⟨by rw [hwr];omega,by rw [hsz,hwr];omega⟩,?_⟩;have ec:(⟨t.toArray⟩:ByteArray).data.toList.getD (IntKind.i64.wrap ((a:Int)+(n:Int))).toNat 0=t.getD (a+n) 0:=by rw [hwr,zh]
  generalize (⟨t.toArray⟩:ByteArray).data.toList.getD (IntKind.i64.wrap ((a:Int)+(n:Int))).toNat 0=x at ec ⊢;rw [<-ec];clear ec;have hx:∀ m:Nat,m<256->((x.toNat:Int)==(m:Int))=decide (x=UInt8.ofNat m):=fun m hm=>by
   rw [Bool.eq_iff_iff,beq_iff_eq,y0];constructor
   ·intro h;exact UInt8.toNat_inj.1 (by rw [K1 m hm];omega)
   ·intro h;rw [h,K1 m hm]
  have hend:IntKind.i64.wrap (IntKind.i64.wrap ((a:Int)+(n:Int))+1)=((a+n+1:Nat):Int):=by rw [hwr,C3 (by omega)]
  by_cases x1:x=35
  ·refine B0 ((hx 35 (by decide)).trans (zy x1)) ?_;refine hc.c 0 rfl rfl ?_;refine hc.q (A8C b hbl _ (hw.below hc.below)) fun w6 h6 hc=>?_;refine⟨hc.may 0 rfl 0 _ (zc 4) rfl,?_⟩;intro w7 h7;have hc:=(hc.set 0 rfl h7).1;have eb:X7 (J5 f) x b=(A66 b).map fun n=>.mk 1 n ⟨#[]⟩ []:=by rw [X7,y6 x1]
   rw [eb];clear eb;cases hn:A66 b with
   | none=>
    have e:A5z b=(0,0,1):=by rw [A5z,hn]
    generalize A5z b=q at*;subst e;refine hc.s 1 rfl fun wS hS hc=>?_;refine hc.a 1 rfl rfl ?_;exact ResG.err hc.below 1
   | some m=>
    have e:A5z b=(1,m,0):=by rw [A5z,hn]
    generalize A5z b=q at*;subst e;refine hc.a 0 rfl rfl ?_;refine hc.s 1 rfl fun wS hS hc=>?_;refine hc.a 1 rfl rfl ?_;refine⟨[.int .i64 1,.int .i64 m,.string ⟨#[]⟩,.slice none 0 0],?_,hc.below,?_⟩
    ·show Ending.returned (.tuple #[_,.int .i64 (IntKind.i64.wrap (IntKind.i64.wrap ((a:Int)+(n:Int))+1)),_])=_;rw [hend];rfl
    ·simp only [Option.map_some];rw [RepC];exact⟨none,0,[],rfl,by rw [RepL],zc _,zb _,fun h=>absurd rfl h⟩
  refine C3X ((hx 35 (by decide)).trans (zz x1)) ?_;by_cases x2:x=93
  ·refine B0 ((hx 93 (by decide)).trans (zy x2)) ?_;refine hc.c 0 rfl rfl ?_;refine⟨(B2U f (by omega) ih b depth _ (by omega) hbl (hw.below hc.below)).mono fun e w6 hq=>?_⟩;obtain⟨cs,e1,h6,hrep⟩:=hq;refine⟨_,e1,?_⟩;have hC:=hc.call h6;have hc:=hC.1;have hrep:=hrep.sub (S':=ext no w5 w6) (fun _ h=>h);have eb:X7 (J5 f) x b=(H9 (J5 f) 6000 b).map fun l=>.mk 3 0 ⟨#[]⟩ l:=by rw [X7,y7 x1,y6 x2]
   rw [eb];clear eb;have hL:=hrep.len;cases hl:H9 (J5 f) 6000 b with
   | none=>
    have e:A0H f b=(V0,1):=by rw [A0H,hl]
    generalize A0H f b=q at*;subst e
    match cs,hL with
    | [c1,c2,c3,c4],_=>
    have hone:D7 [c1,c2,c3,c4]=true:=by rw [V0,RepC] at hrep;obtain⟨_,_,_,e,_⟩:=hrep;rw [e];rfl
    refine⟨hc.may 0 rfl 0 _ (zc 4) hone,?_⟩;intro w7 h7;have hc:=(hc.set 0 rfl h7).1;refine hc.s 1 rfl fun wS hS hc=>?_;refine hc.a 1 rfl rfl ?_;exact ResG.err hc.below 1
   | some l=>
    have e:A0H f b=(.mk 3 0 ⟨#[]⟩ l,0):=by rw [A0H,hl]
    generalize A0H f b=q at*;subst e
    match cs,hL with
    | [c1,c2,c3,c4],_=>
    have hone:D7 [c1,c2,c3,c4]=true:=by rw [RepC] at hrep;obtain⟨_,_,_,e,_⟩:=hrep;rw [e];rfl
    refine⟨hc.may 0 rfl 0 _ (zc 4) hone,?_⟩;intro w7 h7;have hC:=hc.set 0 rfl h7;have hc:=hC.1;have hrep:=hrep.fut hC.2;refine hc.a 0 rfl rfl ?_;refine⟨hc.may 1 rfl 0 _ (zc 4) hone,?_⟩;intro w8 h8;have hC:=hc.set 1 rfl h8;have hc:=hC.1;have hrep:=hrep.fut hC.2;refine hc.a 1 rfl rfl ?_;refine⟨[c1,c2,c3,c4],?_,hc.below,?_⟩
    ·show Ending.returned (.tuple #[_,.int .i64 (IntKind.i64.wrap (IntKind.i64.wrap ((a:Int)+(n:Int))+1)),_])=_;rw [hend];rfl
    ·exact hrep.fut hc.out
  refine C3X ((hx 93 (by decide)).trans (zz x2)) ?_;by_cases x3:x=44
  ·refine B0 ((hx 44 (by decide)).trans (zy x3)) ?_;have eb:X7 (J5 f) x b=some (.mk 2 0 ⟨b.toArray⟩ []):=by rw [X7,y7 x1,y7 x2,y6 x3]
   rw [eb];clear eb;refine hc.a 0 rfl rfl ?_;refine hc.s 1 rfl fun wS hS hc=>?_;refine hc.a 1 rfl rfl ?_;refine⟨[.int .i64 2,.int .i64 0,.string ⟨b.toArray⟩,.slice none 0 0],?_,hc.below,?_⟩
   ·show Ending.returned (.tuple #[_,.int .i64 (IntKind.i64.wrap (IntKind.i64.wrap ((a:Int)+(n:Int))+1)),_])=_;rw [hend];rfl
   ·simp only;rw [RepC];exact⟨none,0,[],rfl,by rw [RepL],zc _,zb _,fun h=>absurd rfl h⟩
  ·refine C3X ((hx 44 (by decide)).trans (zz x3)) ?_;have eb:X7 (J5 f) x b=none:=by rw [X7,y7 x1,y7 x2,y7 x3]
   rw [eb];clear eb;refine hc.s 1 rfl fun wS hS hc=>?_;refine hc.a 1 rfl rfl ?_;exact ResG.err hc.below 1
theorem B4z (t:List UInt8) (w:World) (ht:t.length<=1073741824) (hw:Env w):Calls Tryz.prog 180 #[.string ⟨t.toArray⟩] w (ResG (A0F t) w):=by
 refine vE Tryz.func180 ?_;intro g2 w1 h1;have hc:=((Ctx.start w no (fun _ h=>h.elim)).loc h1).1;refine⟨(B4y 6 (zc _) t 1 _ rfl ht (hw.below hc.below)).mono fun e w6 hq=>?_⟩;obtain⟨cs,e1,h6,hrep⟩:=hq;refine⟨_,e1,?_⟩;have hC:=hc.call h6;have hc:=hC.1;have eg:A0F t=if (J5 6 t).2.2=0/\A2z (J5 6 t).1=false then (V0,0,1) else J5 6 t:=by rw [A0F]
 rw [eg];clear eg;generalize J5 6 t=q at*;obtain⟨v,n,er⟩:=q;simp only at hrep ⊢;have hshape:∃ k' n' s' A' len' cap',cs=[.int .i64 k',.int .i64 n',.string s',.slice A' len' cap']:=by obtain⟨k',n',s',l'⟩:=v;rw [RepC] at hrep;obtain⟨A',cap',xs',e,_,_⟩:=hrep;exact⟨_,_,_,_,_,_,e⟩
 obtain⟨k',n',s',A',len',cap',rfl⟩:=hshape;intro g5 w7 h7;have hC:=hc.loc h7;have hc:=hC.1;have hrep:=hrep.fut hC.2;refine⟨hc.may 0 rfl 0 _ (zc 4) rfl,?_⟩;intro w8 h8;have hC:=hc.set 0 rfl h8;have hc:=hC.1;have hrep:=hrep.fut hC.2;by_cases he:er=0
 ·refine B0 (by show (er==0)=true;simpa using he) ?_;refine hc.a 0 rfl rfl ?_;refine B4 (A61 v k' n' s' A' len' cap' _ _ hrep) ?_;intro w9 h9;have hC:=hc.quiet h9;have hc:=hC.1;have hrep:=hrep.fut hC.2;by_cases hm:A2z v=true
  ·refine C3X (by rw [hm];rfl) ?_;refine hc.a 0 rfl rfl ?_;refine⟨hc.may 1 rfl 0 _ (zc 4) rfl,?_⟩;intro w10 h10;have hC:=hc.set 1 rfl h10;have hc:=hC.1;have hrep:=hrep.fut hC.2;refine hc.a 1 rfl rfl ?_;rw [y7 (fun h=>by rw [hm] at h;cases h.2)];exact⟨[.int .i64 k',.int .i64 n',.string s',.slice A' len' cap'],rfl,hc.below,hrep.fut hc.out⟩
  ·have hm:A2z v=false:=by simpa using hm
   refine B0 (by rw [hm];rfl) ?_;refine hc.s 1 rfl fun wS hS hc=>?_;refine hc.a 1 rfl rfl ?_;rw [y6 ⟨he,hm⟩];exact ResG.err hc.below 1
 ·refine C3X (by show (er==0)=false;simpa using he) ?_;refine hc.a 0 rfl rfl ?_;refine⟨hc.may 1 rfl 0 _ (zc 4) rfl,?_⟩;intro w10 h10;have hC:=hc.set 1 rfl h10;have hc:=hC.1;have hrep:=hrep.fut hC.2;refine hc.a 1 rfl rfl ?_;rw [y7 (fun h=>he h.1)];exact⟨[.int .i64 k',.int .i64 n',.string s',.slice A' len' cap'],rfl,hc.below,hrep.fut hc.out⟩
structure Ver where
 ver:Int
 gone:Bool
 body:ByteArray
structure Ent where
 key:ByteArray
 vs:List Ver
structure Res where
 err:Int
 ver:Int
structure Mem where
 req:Int
 res:Res
structure Stt where
 seq:Int
 l:List Ent
 ms:List Mem
 lows:List Int
def K2 (v:Ver):List Value:=[.int .i64 v.ver,.bool v.gone,.string v.body]
def F7 (m:Mem):List Value:=[.int .i64 m.req,.int .i64 m.res.err,.int .i64 m.res.ver]
def B86 (n:Int):Value:=.int .i64 n
def Flat (k:Nat) (css:List (List Value)):Prop:=∀ c∈css,c.length=k/\D7 c=true
theorem Flat.len {k:Nat}:∀ {css:List (List Value)},Flat k css->css.flatten.length=css.length*k
 | [],_=>by simp
 | c::r,h=>by rw [List.flatten_cons,z6,(h c (by simp)).1,Flat.len (fun x hx=>h x (by simp [hx])),zi,Nat.succ_mul,Nat.add_comm]
theorem Flat.get {k:Nat}:∀ {css:List (List Value)},Flat k css->∀ (i:Nat) (hi:i<css.length) (j:Nat) (u:Value),css[i][j]?=some u->css.flatten[i*k+j]?=some u
 | c::r,h,0,_,j,u,hu=>by
  have hj:j<c.length:=by
   rcases zl j c.length with h | h
   ·exact h
   ·rw [List.getElem_cons_zero,List.getElem?_eq_none h] at hu;cases hu
  rw [List.flatten_cons,Nat.zero_mul,zm,List.getElem?_append_left hj];exact hu
 | c::r,h,i+1,hi,j,u,hu=>by have hc:=(h c (by simp)).1;rw [List.flatten_cons,List.getElem?_append_right (by rw [hc,Nat.succ_mul];omega),hc,show (i+1)*k+j-k=i*k+j from by rw [Nat.succ_mul];omega];exact Flat.get (fun x hx=>h x (by simp [hx])) i (Nat.lt_of_succ_lt_succ hi) j u hu
theorem Flat.take {k:Nat} {css:List (List Value)} (h:Flat k css) (n:Nat):Flat k (css.take n):=fun c hc=>h c (List.mem_of_mem_take hc)
theorem Flat.drop {k:Nat} {css:List (List Value)} (h:Flat k css) (n:Nat):Flat k (css.drop n):=fun c hc=>h c (List.mem_of_mem_drop hc)
theorem Flat.append {k:Nat} {a b:List (List Value)} (ha:Flat k a) (hb:Flat k b):Flat k (a++b):=fun c hc=>by
 rw [List.mem_append] at hc;rcases hc with h | h
 ·exact ha c h
 ·exact hb c h
theorem Flat.map {α:Type} {k:Nat} (f:α->List Value) (hf:∀ a,(f a).length=k/\D7 (f a)=true) (l:List α):Flat k (l.map f):=fun c hc=>by obtain⟨a,_,rfl⟩:=List.mem_map.1 hc;exact hf a
theorem Flat.flat_take {k:Nat}:∀ {css:List (List Value)},Flat k css->∀ i,(css.take i).flatten=css.flatten.take (i*k)
 | [],_,i=>by simp
 | c::r,h,0=>by simp
 | c::r,h,i+1=>by have hc:=(h c (by simp)).1;rw [List.take_succ_cons,List.flatten_cons,List.flatten_cons,Flat.flat_take (fun x hx=>h x (by simp [hx])) i,Nat.succ_mul,List.take_append,hc,List.take_of_length_le (l:=c) (by omega),show i*k+k-k=i*k from by omega]
theorem Flat.flat_drop {k:Nat} {css:List (List Value)} (h:Flat k css) (i:Nat):(css.drop i).flatten=css.flatten.drop (i*k):=by
 have e:css.flatten=(css.take i).flatten++(css.drop i).flatten:=by rw [<-zr,List.take_append_drop]
 rcases zl i css.length with hi | hi
 ·rw [e,List.drop_left' (by rw [Flat.len (h.take i),zf,Nat.min_eq_left (Nat.le_of_lt hi)])]
 ·rw [zq hi,zq (by rw [h.len];exact Nat.mul_le_mul_right _ hi)];rfl
theorem Flat.ones {k:Nat}:∀ {css:List (List Value)},Flat k css->D7 css.flatten=true
 | [],_=>rfl
 | c::r,h=>by
  refine A1g fun v hv=>?_;rw [List.flatten_cons,List.mem_append] at hv;rcases hv with hv | hv
  ·exact H7 (h c (by simp)).2 v hv
  ·exact H7 (Flat.ones (css:=r) fun x hx=>h x (by simp [hx])) v hv
theorem B4M {c:List Value} (h:c.length=2):∃ a b,c=[a,b]:=by
 match c,h with
 | [a,b],_=>exact⟨a,b,rfl⟩
theorem Row.elemF {S:Nat->Prop} {w:World} {A:Option Addr} {n cap k:Nat} {css:List (List Value)} (hR:Row S w A n cap css.flatten) (hk:0<k) (hF:Flat k css) (i:Nat) (hi:i<css.length):
  ∃ ad,A=some ad/\Go.Vc.cellsAt w (ad.add (i*k)) css[i] 0:=by
 have hx:=hF.len;have h1:(i+1)*k<=css.length*k:=Nat.mul_le_mul_right _ hi;rw [Nat.succ_mul] at h1;obtain⟨ad,e,hc⟩:=hR.get (i:=i*k) (by omega);refine⟨ad,e,?_⟩;exact Z8 hc (i*k) css[i] 0 (fun j u hu=>by rw [Nat.add_zero];exact hF.get i hi j u hu)
def RepE (S:Nat->Prop) (w:World) (e:Ent) (cs:List Value):Prop:=∃ A cap,cs=[.string e.key,.slice A e.vs.length cap]/\Row S w A e.vs.length cap (e.vs.map K2).flatten
def RepEs (S:Nat->Prop) (w:World):List Ent->List (List Value)->Prop
 | [],css=>css=[]
 | e::r,css=>∃ c t,css=c::t/\RepE S w e c/\RepEs S w r t
theorem RepE.map {S S':Nat->Prop} {w w':World} (h:∀ {A:Option Addr} {n cap:Nat} {xs:List Value},Row S w A n cap xs->Row S' w' A n cap xs) {e:Ent} {cs:List Value} (hr:RepE S w e cs):RepE S' w' e cs:=by obtain⟨A,cap,e1,e2⟩:=hr;exact⟨A,cap,e1,h e2⟩
theorem RepEs.map {S S':Nat->Prop} {w w':World} (h:∀ {A:Option Addr} {n cap:Nat} {xs:List Value},Row S w A n cap xs->Row S' w' A n cap xs):∀ {l:List Ent} {css:List (List Value)},RepEs S w l css->RepEs S' w' l css
 | [],_,hr=>hr
 | e::r,_,⟨c,t,e1,e2,e3⟩=>⟨c,t,e1,e2.map h,RepEs.map h e3⟩
theorem RepEs.below {S:Nat->Prop} {w w':World} {l:List Ent} {css:List (List Value)} (h:RepEs S w l css) (hb:Below w.heap.size w w'):RepEs S w' l css:=h.map (fun h=>h.below hb)
theorem RepEs.len {S:Nat->Prop} {w:World}:∀ {l:List Ent} {css:List (List Value)},RepEs S w l css->css.length=l.length
 | [],_,h=>by rw [show _=[] from h];rfl
 | e::r,_,⟨c,t,e1,e2,e3⟩=>by rw [e1,zi,e3.len,zi]
theorem RepEs.flat {S:Nat->Prop} {w:World}:∀ {l:List Ent} {css:List (List Value)},RepEs S w l css->Flat 2 css
 | [],_,h=>by rw [show _=[] from h];intro c hc;cases hc
 | e::r,_,⟨c,t,e1,⟨A,cap,e2,_⟩,e3⟩=>by
  rw [e1];intro x hx;cases hx with
  | head=>rw [e2];exact⟨rfl,rfl⟩
  | tail _ hx=>exact e3.flat x hx
theorem RepEs.get {S:Nat->Prop} {w:World}:∀ {l:List Ent} {css:List (List Value)},RepEs S w l css->∀ (i:Nat) (hi:i<l.length) (hj:i<css.length),RepE S w l[i] css[i]
 | e::r,_,⟨c,t,e1,e2,e3⟩,0,_,_=>by subst e1;exact e2
 | e::r,_,⟨c,t,e1,e2,e3⟩,i+1,hi,hj=>by subst e1;exact e3.get i (Nat.lt_of_succ_lt_succ hi) (Nat.lt_of_succ_lt_succ hj)
theorem RepEs.append {S:Nat->Prop} {w:World}:∀ {l m:List Ent} {a b:List (List Value)},RepEs S w l a->RepEs S w m b->RepEs S w (l++m) (a++b)
 | [],_,_,_,h,hb=>by rw [show _=[] from h];exact hb
 | e::r,_,_,_,⟨c,t,e1,e2,e3⟩,hb=>by subst e1;exact⟨c,_,rfl,e2,e3.append hb⟩
theorem RepEs.take {S:Nat->Prop} {w:World}:∀ {l:List Ent} {css:List (List Value)} (i:Nat),RepEs S w l css->RepEs S w (l.take i) (css.take i)
 | _,_,0,_=>by simp [RepEs]
 | [],_,i+1,h=>by rw [show _=[] from h];simp [RepEs]
 | e::r,_,i+1,⟨c,t,e1,e2,e3⟩=>by subst e1;exact⟨c,_,rfl,e2,e3.take i⟩
theorem RepEs.drop {S:Nat->Prop} {w:World}:∀ {l:List Ent} {css:List (List Value)} (i:Nat),RepEs S w l css->RepEs S w (l.drop i) (css.drop i)
 | _,_,0,h=>h
 | [],_,i+1,h=>by rw [show _=[] from h];simp [RepEs]
 | e::r,_,i+1,⟨c,t,e1,e2,e3⟩=>by subst e1;exact e3.drop i
def RepS (S:Nat->Prop) (w:World) (s:Stt) (cs:List Value):Prop:=
 ∃ A cap css B cap',cs=[.int .i64 s.seq,.slice A s.l.length cap,.slice B s.ms.length cap']++s.lows.map B86/\s.lows.length=5/\RepEs S w s.l css/\Row S w A s.l.length cap css.flatten/\Row S w B s.ms.length cap' (s.ms.map F7).flatten
theorem RepS.map {S S':Nat->Prop} {w w':World} (h:∀ {A:Option Addr} {n cap:Nat} {xs:List Value},Row S w A n cap xs->Row S' w' A n cap xs) {s:Stt} {cs:List Value} (hr:RepS S w s cs):RepS S' w' s cs:=by obtain⟨A,cap,css,B,cap',e1,e2,e3,e4,e5⟩:=hr;exact⟨A,cap,css,B,cap',e1,e2,e3.map h,h e4,h e5⟩
theorem RepS.below {S:Nat->Prop} {w w':World} {s:Stt} {cs:List Value} (h:RepS S w s cs) (hb:Below w.heap.size w w'):RepS S w' s cs:=h.map (fun h=>h.below hb)
def B8q:Ver:=⟨0,false,⟨#[]⟩⟩
def B2V (a b:Ver):Bool:=a.ver==b.ver&&a.gone==b.gone&&D3 a.body b.body
theorem D2 {a b:ByteArray}:D3 a b=true↔a=b:=by
 unfold D3;rw [beq_iff_eq];constructor
 ·intro h;cases a;cases b;simpa using h
 ·intro h;rw [h]
theorem C3g {a b:Ver}:B2V a b=true↔a=b:=by obtain⟨a1,a2,a3⟩:=a;obtain⟨b1,b2,b3⟩:=b;simp [B2V,D2,and_assoc]
def B40 (a b:Mem):Bool:=a.req==b.req&&a.res.err==b.res.err&&a.res.ver==b.res.ver
theorem C3h {a b:Mem}:B40 a b=true↔a=b:=by obtain⟨a1,a2,a3⟩:=a;obtain⟨b1,b2,b3⟩:=b;simp [B40,and_assoc]
def U8 {α:Type} (p:α->α->Bool):List α->List α->Bool
 | [],[]=>true
 | a::r,b::t=>p a b&&U8 p r t
 | [],_::_=>false
 | _::_,[]=>false
theorem A1p {α:Type} {p:α->α->Bool} (hp:∀ a b,p a b=true↔a=b):∀ {a b:List α},U8 p a b=true↔a=b
 | [],[]=>by simp [U8]
 | a::r,b::t=>by simp [U8,hp,A1p hp (a:=r) (b:=t)]
 | [],_::_=>by simp [U8]
 | _::_,[]=>by simp [U8]
theorem A4x {α:Type} (p:α->α->Bool):∀ (a b:List α),a.length≠b.length->U8 p a b=false
 | [],[],h=>absurd rfl h
 | a::r,b::t,h=>by rw [U8,A4x p r t (fun e=>h (by rw [zi,zi,e])),Bool.and_false]
 | [],_::_,_=>by rw [U8]
 | _::_,[],_=>by rw [U8]
def eqE (a b:Ent):Bool:=D3 a.key b.key&&U8 B2V a.vs b.vs
theorem C3k {a b:Ent}:eqE a b=true↔a=b:=by obtain⟨a1,a2⟩:=a;obtain⟨b1,b2⟩:=b;simp [eqE,D2,A1p (fun a b=>C3g)]
def eqS (a b:Stt):Bool:=a.seq==b.seq&&a.lows==b.lows&&U8 B40 a.ms b.ms&&U8 eqE a.l b.l
theorem C3a {a b:Stt}:eqS a b=true↔a=b:=by
 obtain⟨a1,a2,a3,a4⟩:=a;obtain⟨b1,b2,b3,b4⟩:=b;simp [eqS,A1p (fun a b=>C3h),A1p (fun a b=>C3k)];constructor
 ·rintro⟨⟨⟨h1,h2⟩,h3⟩,h4⟩;exact⟨h1,h4,h3,h2⟩
 ·rintro⟨h1,h4,h3,h2⟩;exact⟨⟨⟨h1,h2⟩,h3⟩,h4⟩
def A1C (v:Ver):Bool:=decide (1<=v.ver)&&decide (v.ver<=1099511627776)&&decide ((v.body.size:Int)<=300)&&(!v.gone||mt v.body)
def A9t:Int->List Ver->Bool
 | _,[]=>true
 | a,v::r=>A1C v&&decide (a<v.ver)&&A9t v.ver r
def A50 (e:Ent):Bool:=A9t 0 e.vs&&A8A e.key&&decide (1<=e.vs.length)&&decide (e.vs.length<=12)
def G5 (l:List Ver):Ver:=l.getLastD B8q
def A4y (e:Ent):Ver × Bool:=if e.vs.length=0 then (B8q,false) else (G5 e.vs,!(G5 e.vs).gone)
def A1q:List Ver->Int->Option Nat
 | [],_=>none
 | v::r,n=>if v.ver==n then some 0 else (A1q r n).map (·+1)
def A6G (e:Ent) (v:Ver):Ent × Bool:=if (e.vs.length≠0/\v.ver<=(G5 e.vs).ver)\/12<=e.vs.length then (e,false) else (⟨e.key,e.vs++[v]⟩,true)
def A9u (e:Ent) (n:Int):Ent × Bool:=
 match A1q e.vs n with
 | none=>(e,false)
 | some i=>(⟨e.key,e.vs.take i++e.vs.drop (i+1)⟩,true)
def B79 (s:ByteArray):ByteArray:=⟨(X5 (zOn (0,1) s.data.toList)).toArray⟩
def I4 (e:Ent) (c:Int) (tag:ByteArray):Bool:=if c==0 then true else if c==1 then !(A4y e).2 else if c==2 then (A4y e).2&&D3 (B79 (A4y e).1.body) tag else false
theorem T4:∀ a:List UInt8,Op.bytesLess a a=false
 | []=>rfl
 | x::r=>by simp [Op.bytesLess,T4 r]
theorem A0I:∀ a b:List UInt8,(!Op.bytesLess a b)=(Op.bytesLess b a||b==a)
 | [],[]=>by simp [Op.bytesLess]
 | [],y::t=>by simp [Op.bytesLess]
 | x::r,[]=>by simp [Op.bytesLess]
 | x::r,y::t=>by
  have ih:=A0I r t;simp only [Op.bytesLess];by_cases h1:x<y
  ·have h2:¬ y<x:=UInt8.not_lt.2 (UInt8.le_of_lt h1);have h3:y≠x:=fun e=>by subst e;exact UInt8.lt_irrefl _ h1
   simp [h1,h2,h3]
  ·by_cases h2:y<x
   ·have h3:y≠x:=fun e=>by subst e;exact UInt8.lt_irrefl _ h2
    have h4:x≠y:=fun e=>h3 e.symm;simp [h1,h2,h3,h4]
   ·have h3:x=y:=UInt8.le_antisymm (UInt8.not_lt.1 h2) (UInt8.not_lt.1 h1);subst h3;simpa using ih
theorem U9:∀ a b c:List UInt8,Op.bytesLess a b=true->Op.bytesLess b c=true->Op.bytesLess a c=true
 | a,[],c,h1,h2=>by cases a<;>simp [Op.bytesLess] at h1
 | a,y::t,[],h1,h2=>by simp [Op.bytesLess] at h2
 | [],y::t,z::u,h1,h2=>by simp [Op.bytesLess]
 | x::r,y::t,z::u,h1,h2=>by
  simp only [Op.bytesLess] at*;have ih:=U9 r t u;by_cases e1:x<y
  ·by_cases e2:y<z
   ·simp [UInt8.lt_trans e1 e2]
   ·by_cases e3:y=z
    ·subst e3;simp [e1]
    ·simp [e2,e3] at h2
  ·by_cases e4:x=y
   ·subst e4;simp [UInt8.lt_irrefl] at h1;by_cases e2:x<z
    ·simp [e2]
    ·by_cases e3:x=z
     ·subst e3;simp [UInt8.lt_irrefl] at h2;simp [UInt8.lt_irrefl,ih h1 h2]
     ·simp [e2,e3] at h2
   ·simp [e1,e4] at h1
theorem A0z (a:ByteArray):C6 a a=false:=T4 _
theorem A1r (a b:ByteArray):(!C6 a b)=(C6 b a||D3 b a):=A0I _ _
theorem R4 {a b c:ByteArray} (h:C6 a b=true) (k:C6 b c=true):C6 a c=true:=U9 _ _ _ h k
theorem B2W {a b:ByteArray} (h:C6 a b=true):D3 a b=false:=by
 cases e:D3 a b
 ·rfl
 ·rw [D2] at e;subst e;rw [A0z] at h;cases h
def E3:Int:=1099511627776
def A1M (seq:Int):Option ByteArray->List Ent->Bool
 | _,[]=>true
 | p,e::r=>A50 e&&decide ((G5 e.vs).ver<=seq)&&(match p with | none=>true | some k=>C6 k e.key)&&A1M seq (some e.key) r
def A0g:Nat->List Int->Bool
 | _,[]=>true
 | i,x::r=>(x==0||S6 x==(i:Int)+1)&&A0g (i+1) r
def I5 (lows:List Int) (h:Int):Int:=lows.getD (h-1).toNat 0
def A1D (lows:List Int) (seq:Int):Option Int->List Mem->Bool
 | _,[]=>true
 | p,m::r=>!(S6 m.req==0)&&decide (I5 lows (S6 m.req)<=m.req)&&(match p with | none=>true | some q=>decide (q<m.req))&&
   decide (0<=m.res.err)&&decide (m.res.err<=13)&&decide (0<=m.res.ver)&&decide (m.res.ver<=seq)&&A1D lows seq (some m.req) r
def T5 (s:Stt):Bool:=
 decide (0<=s.seq)&&decide (s.seq<=E3)&&decide (s.l.length<=40)&&decide (s.ms.length<=100)&&A1M s.seq none s.l&&A0g 0 s.lows&&A1D s.lows s.seq none s.ms
def posK:List Ent->ByteArray->Nat
 | [],_=>0
 | e::r,k=>if C6 e.key k then posK r k+1 else 0
def N5:List Mem->Int->Nat
 | [],_=>0
 | m::r,n=>if m.req<n then N5 r n+1 else 0
def E8 (l:List Ent) (k:ByteArray):Option Ent:=
 match l[posK l k]? with
 | some e=>if D3 e.key k then some e else none
 | none=>none
def V1 (l:List Mem) (n:Int):Option Mem:=
 match l[N5 l n]? with
 | some m=>if m.req==n then some m else none
 | none=>none
def A1s (l:List Ent) (k:ByteArray) (has:Bool) (e:List Ent):List Ent:=l.take (posK l k)++e++l.drop (if has then posK l k+1 else posK l k)
def doK (l:List Ent) (seq:Int) (d:D):List Ent × Res:=
 let has:=(E8 l d.key).isSome;let e:=(E8 l d.key).getD ⟨d.key,[]⟩
 if d.kind==3 then
  match A1q e.vs d.ver with
  | none=>(l,⟨6,0⟩)
  | some j=>(A1s l d.key has (if (e.vs.take j++e.vs.drop (j+1)).length=0 then [] else [⟨e.key,e.vs.take j++e.vs.drop (j+1)⟩]),⟨0,d.ver⟩)
 else if d.kind==1&&!I4 e d.cond d.tag then (l,⟨9,0⟩)
 else if d.kind==2&&!has then (l,⟨6,0⟩)
 else if 12<=e.vs.length||(!has&&decide (40<=l.length)) then (l,⟨5,0⟩)
 else (A1s l d.key has [⟨e.key,e.vs++[⟨seq,d.kind==2,d.body⟩]⟩],⟨0,seq⟩)
def N7 (low:Int) (h:Int) (l:List Mem):List Mem:=l.filter fun m=>!(decide (m.req<low)&&S6 m.req==h)
def doS (s:Stt) (d:D):Stt × Res:=
 if !T5 s||!L3 d then (s,⟨1,0⟩)
 else if E3<=s.seq then (s,⟨5,0⟩)
 else if d.req<I5 s.lows (S6 d.req) then (⟨s.seq+1,s.l,s.ms,s.lows⟩,⟨12,0⟩)
 else match V1 s.ms d.req with
  | some m=>(⟨s.seq+1,s.l,s.ms,s.lows⟩,m.res)
  | none=>
   if 100<=s.ms.length then (⟨s.seq+1,s.l,s.ms,s.lows⟩,⟨5,0⟩)
   else
    let q:=doK s.l (s.seq+1) d;let ms:=s.ms.take (N5 s.ms d.req)++⟨d.req,q.2⟩::s.ms.drop (N5 s.ms d.req)
    if I5 s.lows (S6 d.req)<d.low/\S6 d.low=S6 d.req then
     (⟨s.seq+1,q.1,N7 d.low (S6 d.req) ms,s.lows.set (S6 d.req-1).toNat d.low⟩,q.2)
    else (⟨s.seq+1,q.1,ms,s.lows⟩,q.2)
def B8r:List Mem->Int->Option Nat
 | [],_=>none
 | m::r,n=>if m.req==n then some 0 else (B8r r n).map (·+1)
def B6t (s:Stt) (n:Int):Res × Bool:=
 match (B8r s.ms n).bind fun i=>s.ms[i]? with
 | none=>(⟨0,0⟩,false)
 | some m=>(m.res,true)
def O7 (n:Int):V:=.mk 1 n ⟨#[]⟩ []
def vStr (s:ByteArray):V:=.mk 2 0 s []
def P9 (l:List V):V:=.mk 3 0 ⟨#[]⟩ l
def B41 (v:Ver):V:=P9 [O7 v.ver,O7 (if v.gone then 1 else 0),vStr v.body]
def B42 (e:Ent):V:=P9 [vStr e.key,P9 (e.vs.map B41)]
def B43 (m:Mem):V:=P9 [O7 m.req,O7 m.res.err,O7 m.res.ver]
def B4N (s:Stt):V:=P9 [O7 s.seq,P9 (s.l.map B42),P9 (s.ms.map B43),P9 (s.lows.map O7)]
def A00 (s:Stt):List UInt8:=if T5 s then A4T (B4N s) else []
def vN:V->Int | .mk _ n _ _=>n
def vS:V->ByteArray | .mk _ _ s _=>s
def vL:V->List V | .mk _ _ _ l=>l
def A4z:Stt:=⟨0,[],[],[0,0,0,0,0]⟩
def V2 (d:D):V:=P9 [O7 d.kind,vStr d.key,vStr d.body,O7 d.ver,O7 d.cond,vStr d.tag,O7 d.req,O7 d.low]
def A1E (d:D):V:=if L3 d then V2 d else V0
def vK:V->Int | .mk k _ _ _=>k
theorem B2X (n:Int) (h:B3 n):(Lib.itoa n).length<=21:=Lib.itoa_length_le n h.1 h.2
theorem D5 (n:Int) (h:B3 n):(J1 (O7 n)).length<=30:=by have h1:=B2X n h;rw [F6];have e:I2 (O7 n)=Lib.itoa n:=rfl;have:=I3 (u:=(Lib.itoa n).length) (by omega);rw [e];omega
theorem M2 (s:ByteArray) (h:s.size<10000000):(J1 (vStr s)).length<=s.size+9:=by rw [F6];have e:(I2 (vStr s)).length=s.size:=T3 s;have:=I3 h;rw [e];omega
theorem A1N {s:ByteArray} (h:A8A s=true):s.size<=40:=by simp only [A8A,B7p,z7,y0] at h;rw [<-T3 s];exact h.2
theorem B2Y {s:ByteArray} (h:(B6s s||mt s)=true):s.size<=8:=by
 rw [Bool.or_eq_true] at h;rcases h with h | h
 ·rcases Nat.decEq s.data.toList.length 8 with h8 | h8
  ·rw [B6s,A1l _ (.inl h8)] at h;cases h
  ·rw [<-T3 s,h8];exact zc _
 ·rw [B9b h];decide
theorem A22 {d:D} (h:L3 d=true):d.key.size<=40/\d.body.size<=300/\d.tag.size<=8:=by
 unfold L3 at h;rw [z7] at h;obtain⟨h0,h1⟩:=h;simp only [z7] at h0;refine⟨A1N h0.1.1.1,?_⟩;split at h1
 ·simp only [z7,y0] at h1;exact⟨by omega,B2Y h1.2⟩
 ·split at h1
  ·simp only [z7] at h1;rw [B9b h1.1.1.1,B9b h1.1.2];exact⟨by decide,by decide⟩
  ·split at h1
   ·simp only [z7] at h1;rw [B9b h1.1.1.1.1,B9b h1.1.1.2];exact⟨by decide,by decide⟩
   ·cases h1
theorem A9v (d:D) (hk:d.Ok) (h:L3 d=true):(I2 (V2 d)).length<=1000:=by
 obtain⟨h1,h2,h3⟩:=A22 h;have e:I2 (V2 d)=J1 (O7 d.kind)++(J1 (vStr d.key)++(J1 (vStr d.body)++(J1 (O7 d.ver)++(J1 (O7 d.cond)++(J1 (vStr d.tag)++(J1 (O7 d.req)++(J1 (O7 d.low)++[]))))))):=by simp [I2,V2,P9,M5]
 have a1:=D5 d.kind hk.kind;have a2:=D5 d.ver hk.ver;have a3:=D5 d.cond hk.cond;have a4:=D5 d.req hk.req;have a5:=D5 d.low hk.low;have a6:=M2 d.key (by omega);have a7:=M2 d.body (by omega);have a8:=M2 d.tag (by omega);rw [e];simp only [z6,List.length_nil];omega
theorem A9w (d:D) (hk:d.Ok):okV (V2 d):=by
 have z:B3 0:=by unfold B3;omega
 simp [okV,okL,V2,P9,O7,vStr,hk.kind,hk.ver,hk.cond,hk.req,hk.low,z]
theorem A1t (n:Int) (w:World):Calls Tryz.prog 120 #[.int .i64 n] w (C8 (.agg #[.int .i64 1,.int .i64 n,.string ⟨#[]⟩,.slice none 0 0]) w):=by refine vE Tryz.func120 ?_;have hc:=Ctx.start w no (fun _ h=>h.elim);refine hc.n fun gA wgA hgA hc=>?_;refine hc.s 0 rfl fun wS hS hc=>?_;refine hc.a 0 rfl rfl ?_;exact⟨rfl,hc.below⟩
theorem A6H (s:ByteArray) (w:World):Calls Tryz.prog 121 #[.string s] w (C8 (.agg #[.int .i64 2,.int .i64 0,.string s,.slice none 0 0]) w):=by refine vE Tryz.func121 ?_;have hc:=Ctx.start w no (fun _ h=>h.elim);refine hc.n fun gA wgA hgA hc=>?_;refine hc.s 0 rfl fun wS hS hc=>?_;refine hc.a 0 rfl rfl ?_;exact⟨rfl,hc.below⟩
theorem RepL.cons {S:Nat->Prop} {w:World} {v:V} {r:List V} {c xs:List Value} (h:RepC S w v c) (h2:RepL S w r xs):RepL S w (v::r) (c++xs):=by rw [RepL];exact⟨c,xs,h,h2,rfl⟩
theorem RepL.nil (S:Nat->Prop) (w:World):RepL S w [] []:=by rw [RepL]
theorem RepC.leaf (S:Nat->Prop) (w:World) (k n:Int) (s:ByteArray):RepC S w (.mk k n s []) [.int .i64 k,.int .i64 n,.string s,.slice none 0 0]:=by rw [RepC];exact⟨none,0,[],rfl,by rw [RepL],zc _,zb _,fun h=>absurd rfl h⟩
def leaf (k n:Int) (s:ByteArray):List Value:=[.int .i64 k,.int .i64 n,.string s,.slice none 0 0]
def B44 (d:D):List Value:=leaf 1 d.kind ⟨#[]⟩++(leaf 2 0 d.key++(leaf 2 0 d.body++(leaf 1 d.ver ⟨#[]⟩++(leaf 1 d.cond ⟨#[]⟩++(leaf 2 0 d.tag++(leaf 1 d.req ⟨#[]⟩++(leaf 1 d.low ⟨#[]⟩++[])))))))
theorem A9x (S:Nat->Prop) (w:World) (d:D):RepL S w (vL (V2 d)) (B44 d):=
 .cons (.leaf ..) (.cons (.leaf ..) (.cons (.leaf ..) (.cons (.leaf ..) (.cons (.leaf ..) (.cons (.leaf ..) (.cons (.leaf ..) (.cons (.leaf ..) (.nil _ _))))))))
def B87 (v:V) (w:World) (e:Ending) (w':World):Prop:=
 ∃ k n s A len cap,e=.returned (.agg #[.int .i64 k,.int .i64 n,.string s,.slice A len cap])/\Below w.heap.size w w'/\RepC (ext no w w') w' v [.int .i64 k,.int .i64 n,.string s,.slice A len cap]
theorem A9y (d:D) (h:d.Ok) (w:World):Calls Tryz.prog 67 #[.agg #[.int .i64 d.kind,.string d.key,.string d.body,.int .i64 d.ver,.int .i64 d.cond,.string d.tag,.int .i64 d.req,.int .i64 d.low]] w (B87 (A1E d) w):=by
 refine vE Tryz.func67 ?_;intro g1 w1 h1;have hc:=((Ctx.start w no (fun _ h=>h.elim)).loc h1).1;refine hc.n fun g2 w2 h2 hc=>?_;refine hc.a 1 rfl rfl ?_;refine hc.q (A3X d h _) fun w3 h3 hc=>?_;by_cases hm:L3 d=true;rotate_left
 ·have hm:L3 d=false:=by simpa using hm
  refine B0 (by rw [hm];rfl) ?_;refine hc.s 0 rfl fun wS hS hc=>?_;refine hc.a 0 rfl rfl ?_;rw [A1E,y7 (by rw [hm];exact Bool.false_ne_true)];exact⟨0,0,⟨#[]⟩,none,0,0,rfl,hc.below,RepC.V0 _ _⟩
 refine C3X (by rw [hm];rfl) ?_;have b1:=hc.blk 1 rfl;have hlt:∀ b,(fun b=>b=g1) b->b<w3.heap.size:=fun b e=>by subst e;exact b1.lt
 refine vD (.Q [0,1,3,4,6,7,9,10,12,13,15,16,18,19,21,22] (.n 2 (.n 5 (.n 8 (.n 11 (.n 14 (.n 17 (.n 20 (.n 23 (.n 24 (.q 25 .fin) .stop) .stop) .stop) .stop) .stop) .stop) .stop) .stop) .stop)) (Keeps (fun b=>b=g1) w3) (Keeps.start _ _) ?_;have hk:=Keeps.start (fun b=>b=g1) w3;have hc:=hc.drew
 iterate 8 refine⟨_,fun x hx=>hx.cell b1 rfl rfl,?_⟩
 refine⟨hc.q (A1t d.kind _) fun wq hq hc=>?_,trivial⟩;have hk:=hk.below hlt hq;refine⟨hk,?_⟩;refine⟨hc.q (A6H d.key _) fun wq hq hc=>?_,trivial⟩;have hk:=hk.below hlt hq;refine⟨hk,?_⟩;refine⟨hc.q (A6H d.body _) fun wq hq hc=>?_,trivial⟩;have hk:=hk.below hlt hq;refine⟨hk,?_⟩;refine⟨hc.q (A1t d.ver _) fun wq hq hc=>?_,trivial⟩;have hk:=hk.below hlt hq;refine⟨hk,?_⟩;refine⟨hc.q (A1t d.cond _) fun wq hq hc=>?_,trivial⟩;have hk:=hk.below hlt hq;refine⟨hk,?_⟩;refine⟨hc.q (A6H d.tag _) fun wq hq hc=>?_,trivial⟩;have hk:=hk.below hlt hq;refine⟨hk,?_⟩;refine⟨hc.q (A1t d.req _) fun wq hq hc=>?_,trivial⟩;have hk:=hk.below hlt hq;refine⟨hk,?_⟩;refine⟨hc.q (A1t d.low _) fun wq hq hc=>?_,trivial⟩;have hk:=hk.below hlt hq;refine⟨hk,?_⟩;refine⟨fun g3 w4 h4=>?_,trivial⟩;refine⟨hk.below hlt h4.below,?_⟩;have hC:=hc.call h4.below;have hc:=hC.1;have hrow:Row (ext no _ w4) w4 (some ⟨g3,0,none⟩) 8 8 (B44 d):=(h4.row 8 (by decide)).sub fun b e=>by subst e;exact .inr ⟨Nat.le_of_eq h4.1.symm,h4.blk.lt⟩
 refine⟨hc.may 0 rfl 0 _ (zc 4) rfl,?_⟩;intro w5 h5;have hC:=hc.set 0 rfl h5;have hc:=hC.1;refine hc.a 0 rfl rfl ?_;rw [A1E,y6 hm];refine⟨3,0,⟨#[]⟩,some ⟨g3,0,none⟩,8,8,rfl,hc.below,?_⟩;rw [V2,P9,RepC];exact⟨some ⟨g3,0,none⟩,8,B44 d,rfl,A9x _ _ d,(hrow.fut hC.2).fut hc.out⟩
def dC (d:D):List Value:=[.int .i64 d.kind,.string d.key,.string d.body,.int .i64 d.ver,.int .i64 d.cond,.string d.tag,.int .i64 d.req,.int .i64 d.low]
def okM (lows:List Int) (seq:Int) (m:Mem):Bool:=!(S6 m.req==0)&&decide (I5 lows (S6 m.req)<=m.req)&&decide (0<=m.res.err)&&decide (m.res.err<=13)&&decide (0<=m.res.ver)&&decide (m.res.ver<=seq)
theorem R5 (lows:List Int) (seq:Int):∀ (l:List Mem) (p:Option Int),A1D lows seq p l=true↔(∀ m∈l,okM lows seq m=true)/\l.Pairwise (fun a b=>a.req<b.req)/\∀ q,p=some q->∀ m∈l,q<m.req
 | [],p=>by simp [A1D]
 | m::r,p=>by
  have e:A1D lows seq p (m::r)=(okM lows seq m&&(match p with | none=>true | some q=>decide (q<m.req))&&A1D lows seq (some m.req) r):=by
   have e0:A1D lows seq p (m::r)=(!(S6 m.req==0)&&decide (I5 lows (S6 m.req)<=m.req)&&(match p with | none=>true | some q=>decide (q<m.req))&&
     decide (0<=m.res.err)&&decide (m.res.err<=13)&&decide (0<=m.res.ver)&&decide (m.res.ver<=seq)&&A1D lows seq (some m.req) r):=by
    cases p<;>simp only [A1D]
   rw [e0,okM,Bool.eq_iff_iff];simp only [z7];constructor
   ·rintro⟨⟨⟨⟨⟨⟨⟨h1,h2⟩,h3⟩,h4⟩,h5⟩,h6⟩,h7⟩,h8⟩;exact⟨⟨⟨⟨⟨⟨⟨h1,h2⟩,h4⟩,h5⟩,h6⟩,h7⟩,h3⟩,h8⟩
   ·rintro⟨⟨⟨⟨⟨⟨⟨h1,h2⟩,h4⟩,h5⟩,h6⟩,h7⟩,h3⟩,h8⟩;exact⟨⟨⟨⟨⟨⟨⟨h1,h2⟩,h3⟩,h4⟩,h5⟩,h6⟩,h7⟩,h8⟩
  rw [e,z7,z7,R5 lows seq r];simp only [List.mem_cons,forall_eq_or_imp,List.pairwise_cons];constructor
  ·rintro⟨⟨h1,h2⟩,h3,h4,h5⟩;refine⟨⟨h1,h3⟩,⟨fun m' hm'=>h5 _ rfl m' hm',h4⟩,fun q hq=>?_⟩;subst hq;simp only [y0] at h2;exact⟨h2,fun m' hm'=>Int.lt_trans h2 (h5 _ rfl m' hm')⟩
  ·rintro⟨⟨h1,h3⟩,⟨h6,h4⟩,h7⟩;refine⟨⟨h1,?_⟩,h3,h4,fun q hq m' hm'=>by cases hq;exact h6 m' hm'⟩;cases p with
   | none=>rfl
   | some q=>simpa using (h7 q rfl).1
theorem A40:∀ (l:List Mem) (n:Int),∀ m∈l.take (N5 l n),m.req<n
 | [],n,m,h=>by simp at h
 | x::r,n,m,h=>by
  by_cases c:x.req<n
  ·rw [N5,y6 c,List.take_succ_cons] at h;cases h with
   | head=>exact c
   | tail _ h=>exact A40 r n m h
  ·rw [N5,y7 c] at h;simp at h
theorem A41:∀ (l:List Mem) (n:Int),l.Pairwise (fun a b=>a.req<b.req)->V1 l n=none->∀ m∈l.drop (N5 l n),n<m.req
 | [],n,_,_,m,h=>by simp at h
 | x::r,n,hp,hn,m,h=>by
  rw [List.pairwise_cons] at hp;by_cases c:x.req<n
  ·rw [N5,y6 c,List.drop_succ_cons] at h;refine A41 r n hp.2 ?_ m h;simpa [V1,N5,c] using hn
  ·rw [N5,y7 c,List.drop_zero] at h;have hx:x.req≠n:=fun e=>by simp [V1,N5,c,e] at hn
   cases h with
   | head=>omega
   | tail _ h=>have:=hp.1 m h;omega
theorem A42 {α:Type} {l:List α} {i:Nat} {x:α} (h:x∈l.take i\/x∈l.drop i):x∈l:=by
 rcases h with h | h
 ·exact List.mem_of_mem_take h
 ·exact List.mem_of_mem_drop h
theorem A01 {α:Type} {R:α->α->Prop} {l:List α} {i j:Nat} {es:List α} (hij:i<=j) (hp:l.Pairwise R) (he:es.Pairwise R) (h1:∀ a∈l.take i,∀ e∈es,R a e) (h2:∀ e∈es,∀ b∈l.drop j,R e b):
  (l.take i++es++l.drop j).Pairwise R:=by
 have h3:∀ a∈l.take i,∀ b∈l.drop j,R a b:=by
  have hp':(l.take i++l.drop i).Pairwise R:=by rw [List.take_append_drop];exact hp
  rw [List.pairwise_append] at hp';intro a ha b hb;refine hp'.2.2 a ha b ?_;have e:l.drop j=(l.drop i).drop (j-i):=by rw [List.drop_drop];congr 1;omega
  rw [e] at hb;exact List.mem_of_mem_drop hb
 rw [List.pairwise_append,List.pairwise_append];refine⟨⟨hp.sublist (List.take_sublist ..),he,h1⟩,hp.sublist (List.drop_sublist ..),fun a ha b hb=>?_⟩;rw [List.mem_append] at ha;rcases ha with ha | ha
 ·exact h3 a ha b hb
 ·exact h2 a ha b hb
theorem B2Z {lows:List Int} {seq:Int} {l:List Mem} {m:Mem} (h:A1D lows seq none l=true) (hn:V1 l m.req=none) (hm:okM lows seq m=true):
  A1D lows seq none (l.take (N5 l m.req)++m::l.drop (N5 l m.req))=true:=by
 rw [R5] at h ⊢;obtain⟨h1,h2,_⟩:=h;refine⟨fun x hx=>?_,?_,fun q hq=>by cases hq⟩
 ·rw [List.mem_append,List.mem_cons] at hx;rcases hx with hx | hx | hx
  ·exact h1 x (A42 (.inl hx))
  ·rw [hx];exact hm
  ·exact h1 x (A42 (.inr hx))
 ·have:=A01 (es:=[m]) (zc (N5 l m.req)) h2 (List.pairwise_singleton ..) (fun a ha e he=>by
   rw [zx] at he;subst he;exact A40 l _ a ha) (fun e he b hb=>by
   rw [zx] at he;subst he;exact A41 l _ h2 hn b hb)
  simpa using this
theorem B45 {lows:List Int} {seq seq':Int} {m:Mem} (h:okM lows seq m=true) (hs:seq<=seq'):okM lows seq' m=true:=by unfold okM at*;simp only [z7,y0] at*;exact⟨h.1,by omega⟩
theorem A7C {lows:List Int} {seq seq':Int} {p:Option Int} {l:List Mem} (h:A1D lows seq p l=true) (hs:seq<=seq'):A1D lows seq' p l=true:=by rw [R5] at h ⊢;exact⟨fun m hm=>B45 (h.1 m hm) hs,h.2⟩
theorem R6 (n:Int):0<=S6 n/\S6 n<=5:=by unfold S6;split<;>omega
theorem A9z (lows:List Int) (h h' x:Int) (hl:lows.length=5) (r:1<=h/\h<=5) (r':1<=h'/\h'<=5):I5 (lows.set (h-1).toNat x) h'=if h'=h then x else I5 lows h':=by
 unfold I5;rw [List.getD_eq_getElem?_getD,List.getElem?_set];by_cases e:h'=h
 ·subst e;rw [y6 rfl,y6 rfl,y6 (by omega)];rfl
 ·rw [y7 (by omega),y7 e,List.getD_eq_getElem?_getD]
theorem A90 {lows:List Int} {seq low h:Int} {l:List Mem} (hl:lows.length=5) (hr:1<=h/\h<=5) (hm:A1D lows seq none l=true):A1D (lows.set (h-1).toNat low) seq none (N7 low h l)=true:=by
 rw [R5] at hm ⊢;obtain⟨h1,h2,_⟩:=hm;refine⟨fun m hmem=>?_,h2.sublist (List.filter_sublist ..),fun q hq=>by cases hq⟩;rw [N7,List.mem_filter] at hmem;obtain⟨hm1,hm2⟩:=hmem;have ho:=h1 m hm1;unfold okM at ho ⊢;simp only [z7,y0,Bool.not_eq_true',y4,ne_eq] at ho ⊢;have hh:=R6 m.req;refine⟨⟨⟨⟨⟨ho.1.1.1.1.1,?_⟩,ho.1.1.1.2⟩,ho.1.1.2⟩,ho.1.2⟩,ho.2⟩;rw [A9z lows h _ low hl hr (by omega)];by_cases e:S6 m.req=h
 ·rw [y6 e];simp [e] at hm2;exact hm2
 ·rw [y7 e];exact ho.1.1.1.1.2
theorem A0J:∀ (l:List Int) (i:Nat),A0g i l=true↔∀ (j:Nat) (x:Int),l[j]?=some x->x=0\/S6 x=(i:Int)+j+1
 | [],i=>by simp [A0g]
 | x::r,i=>by
  rw [A0g,z7,A0J r (i+1),Bool.or_eq_true,beq_iff_eq,beq_iff_eq];constructor
  ·rintro⟨h1,h2⟩ j y hy;cases j with
   | zero=>
    simp at hy;subst hy;rcases h1 with h1 | h1
    ·exact .inl h1
    ·right;rw [h1];simp
   | succ j=>
    rcases h2 j y (by simpa using hy) with h | h
    ·exact .inl h
    ·right;rw [h];push_cast;omega
  ·intro h;refine⟨?_,fun j y hy=>?_⟩
   ·rcases h 0 x rfl with h | h
    ·exact .inl h
    ·right;rw [h];simp
   ·rcases h (j+1) y (by simpa using hy) with h | h
    ·exact .inl h
    ·right;rw [h];push_cast;omega
theorem A91 {lows:List Int} {h x:Int} (hb:A0g 0 lows=true) (hr:1<=h/\h<=5) (hx:S6 x=h):A0g 0 (lows.set (h-1).toNat x)=true:=by
 rw [A0J] at hb ⊢;intro j y hy;rw [List.getElem?_set] at hy;by_cases e:(h-1).toNat=j
 ·rw [y6 e] at hy;split at hy
  ·cases hy;right;rw [hx];have:(j:Int)=h-1:=by omega
   rw [this];simp<;>omega
  ·cases hy
 ·rw [y7 e] at hy;exact hb j y hy
theorem R7:∀ (l:List Ver) (a:Int),A9t a l=true↔(∀ v∈l,A1C v=true)/\l.Pairwise (fun x y=>x.ver<y.ver)/\∀ v∈l,a<v.ver
 | [],a=>by simp [A9t]
 | v::r,a=>by
  rw [A9t,z7,z7,R7 r v.ver,y0];simp only [List.mem_cons,forall_eq_or_imp,List.pairwise_cons];constructor
  ·rintro⟨⟨h1,h2⟩,h3,h4,h5⟩;exact⟨⟨h1,h3⟩,⟨h5,h4⟩,h2,fun x hx=>Int.lt_trans h2 (h5 x hx)⟩
  ·rintro⟨⟨h1,h3⟩,⟨h5,h4⟩,h2,h6⟩;exact⟨⟨h1,h2⟩,h3,h4,h5⟩
theorem A23 (l:List Ver) (v:Ver):G5 (l++[v])=v:=by simp [G5,List.getLastD_eq_getLast?]
theorem A1u {l:List Ver} (h:l≠[]):G5 l∈l:=by
 rcases List.eq_nil_or_concat l with rfl | ⟨l',c,e0⟩
 ·exact absurd rfl h
 ·rw [List.concat_eq_append] at e0;subst e0;rw [A23];simp
theorem B2a {l:List Ver} (hp:l.Pairwise (fun x y=>x.ver<y.ver)):∀ v∈l,v.ver<=(G5 l).ver:=by
 rcases List.eq_nil_or_concat l with rfl | ⟨l',c,e0⟩
 ·intro v h;cases h
 ·rw [List.concat_eq_append] at e0;subst e0;rw [A23];rw [List.pairwise_append] at hp;intro v hv;rw [List.mem_append,zx] at hv;rcases hv with hv | hv
  ·exact Int.le_of_lt (hp.2.2 v hv c (by simp))
  ·rw [hv];exact Int.le_refl _
def A3c (seq:Int) (e:Ent):Prop:=A50 e=true/\∀ v∈e.vs,v.ver<=seq
theorem A92 {seq:Int} {e:Ent}:(A50 e&&decide ((G5 e.vs).ver<=seq))=true↔A3c seq e:=by
 rw [z7,y0];unfold A3c;constructor
 ·rintro⟨h1,h2⟩;refine⟨h1,fun v hv=>?_⟩;unfold A50 at h1;simp only [z7] at h1;have:=B2a ((R7 _ _).1 h1.1.1.1).2.1 v hv;omega
 ·rintro⟨h1,h2⟩;refine⟨h1,h2 _ (A1u fun e0=>?_)⟩;unfold A50 at h1;rw [e0] at h1;simp at h1
theorem K3 (seq:Int):∀ (l:List Ent) (p:Option ByteArray),A1M seq p l=true↔(∀ e∈l,A3c seq e)/\l.Pairwise (fun a b=>C6 a.key b.key=true)/\∀ q,p=some q->∀ e∈l,C6 q e.key=true
 | [],p=>by simp [A1M]
 | e::r,p=>by
  have e0:A1M seq p (e::r)=((A50 e&&decide ((G5 e.vs).ver<=seq))&&(match p with | none=>true | some k=>C6 k e.key)&&A1M seq (some e.key) r):=by cases p<;>simp only [A1M]
  rw [e0,z7,z7,A92,K3 seq r];simp only [List.mem_cons,forall_eq_or_imp,List.pairwise_cons];constructor
  ·rintro⟨⟨h1,h2⟩,h3,h4,h5⟩;refine⟨⟨h1,h3⟩,⟨fun m' hm'=>h5 _ rfl m' hm',h4⟩,fun q hq=>?_⟩;subst hq;exact⟨h2,fun m' hm'=>R4 h2 (h5 _ rfl m' hm')⟩
  ·rintro⟨⟨h1,h3⟩,⟨h6,h4⟩,h7⟩;refine⟨⟨h1,?_⟩,h3,h4,fun q hq m' hm'=>by cases hq;exact h6 m' hm'⟩;cases p with
   | none=>rfl
   | some q=>exact (h7 q rfl).1
theorem A7D {seq seq':Int} {p:Option ByteArray} {l:List Ent} (h:A1M seq p l=true) (hs:seq<=seq'):A1M seq' p l=true:=by rw [K3] at h ⊢;exact⟨fun m hm=>⟨(h.1 m hm).1,fun v hv=>Int.le_trans ((h.1 m hm).2 v hv) hs⟩,h.2⟩
theorem A43:∀ (l:List Ent) (n:ByteArray),∀ m∈l.take (posK l n),C6 m.key n=true
 | [],n,m,h=>by simp at h
 | x::r,n,m,h=>by
  by_cases c:C6 x.key n=true
  ·rw [posK,y6 c,List.take_succ_cons] at h;cases h with
   | head=>exact c
   | tail _ h=>exact A43 r n m h
  ·rw [posK,y7 c] at h;simp at h
theorem Q0 {l:List Ent} {k:ByteArray} {e:Ent} (h:E8 l k=some e):l[posK l k]?=some e/\e.key=k:=by
 unfold E8 at h;cases e1:l[posK l k]? with
 | none=>rw [e1] at h;cases h
 | some x=>
  rw [e1] at h;simp only at h;by_cases c:D3 x.key k=true
  ·rw [y6 c] at h;cases h;exact⟨rfl,D2.1 c⟩
  ·rw [y7 c] at h;cases h
theorem A44:∀ (l:List Ent) (n:ByteArray),l.Pairwise (fun a b=>C6 a.key b.key=true)->∀ m∈l.drop (if (E8 l n).isSome then posK l n+1 else posK l n),C6 n m.key=true
 | [],n,_,m,h=>by simp at h
 | x::r,n,hp,m,h=>by
  rw [List.pairwise_cons] at hp;by_cases c:C6 x.key n=true
  ·have e1:E8 (x::r) n=E8 r n:=by simp [E8,posK,c]
   have e2:(if (E8 (x::r) n).isSome then posK (x::r) n+1 else posK (x::r) n)=(if (E8 r n).isSome then posK r n+1 else posK r n)+1:=by rw [e1,posK,y6 c];split<;>rfl
   rw [e2,List.drop_succ_cons] at h;exact A44 r n hp.2 m h
  ·have e0:posK (x::r) n=0:=by rw [posK,y7 c]
   have e1:E8 (x::r) n=if D3 x.key n then some x else none:=by simp [E8,e0]
   rw [e0,e1] at h;by_cases c2:D3 x.key n=true
   ·rw [y6 c2] at h;rw [D2] at c2;simp at h;rw [<-c2];exact hp.1 m h
   ·rw [y7 c2] at h;simp only [Option.isSome_none,Bool.false_eq_true,if_false,List.drop_zero] at h;have hx:C6 n x.key=true:=by
     have:=A1r x.key n;have c':C6 x.key n=false:=by simpa using c
     rw [c'] at this;have c2':D3 n x.key=false:=by
      cases e:D3 n x.key
      ·rfl
      ·rw [D2] at e;rw [e] at c2;exact absurd (D2.2 rfl) c2
     rw [c2'] at this;simpa using this.symm
    cases h with
    | head=>exact hx
    | tail _ h=>exact R4 hx (hp.1 m h)
theorem A7E {seq:Int} {l:List Ent} {k:ByteArray} {es:List Ent} (h:A1M seq none l=true) (he:∀ e∈es,A3c seq e/\e.key=k) (h1:es.length<=1):A1M seq none (A1s l k (E8 l k).isSome es)=true:=by
 rw [K3] at h ⊢;obtain⟨a1,a2,_⟩:=h;refine⟨fun x hx=>?_,?_,fun q hq=>by cases hq⟩
 ·rw [A1s,List.mem_append,List.mem_append] at hx;rcases hx with (hx | hx) | hx
  ·exact a1 x (List.mem_of_mem_take hx)
  ·exact (he x hx).1
  ·exact a1 x (List.mem_of_mem_drop hx)
 ·refine A01 (by split<;>omega) a2 ?_ (fun a ha e hm=>by rw [(he e hm).2];exact A43 l k a ha) (fun e hm b hb=>by rw [(he e hm).2];exact A44 l k a2 b hb)
  match es,h1 with
  | [],_=>exact List.Pairwise.nil
  | [x],_=>exact List.pairwise_singleton ..
theorem A7F {l:List Ent} {k:ByteArray} {es:List Ent} (h1:es.length<=1) (h:l.length<40\/(E8 l k).isSome=true) (h0:l.length<=40):(A1s l k (E8 l k).isSome es).length<=40:=by
 rw [A1s,z6,z6,zf,zg];cases e:E8 l k with
 | none=>
  rw [e] at h;simp at h ⊢;omega
 | some x=>
  have:=(Q0 e).1;have hlt:posK l k<l.length:=by
   rcases zl (posK l k) l.length with h | h
   ·exact h
   ·rw [List.getElem?_eq_none h] at this;cases this
  simp;omega
theorem A45 {l:List Ent} {k:ByteArray} {e:Ent} (h:E8 l k=some e):e∈l:=List.mem_of_getElem? (Q0 h).1
theorem A6I:∀ {l:List Ver} {n:Int} {i:Nat},A1q l n=some i->∃ h:i<l.length,l[i].ver=n
 | v::r,n,i,h=>by
  rw [A1q] at h;by_cases c:(v.ver==n)=true
  ·rw [y6 c] at h;cases h;exact⟨Nat.succ_pos _,by simpa using c⟩
  ·rw [y7 c] at h;cases e:A1q r n with
   | none=>rw [e] at h;cases h
   | some j=>
    rw [e] at h;cases h;obtain⟨h1,h2⟩:=A6I e;exact⟨Nat.succ_lt_succ h1,h2⟩
 | [],n,i,h=>by rw [A1q] at h;cases h
theorem E1 {e:Ent}:A50 e=true↔A9t 0 e.vs=true/\A8A e.key=true/\1<=e.vs.length/\e.vs.length<=12:=by simp [A50,and_assoc]
theorem B46 (l:List Ent) (seq:Int) (d:D):0<=(doK l seq d).2.err/\(doK l seq d).2.err<=13/\((doK l seq d).2.ver=0\/(doK l seq d).2.ver=seq\/((doK l seq d).2.ver=d.ver/\d.kind=3/\(A1q ((E8 l d.key).getD ⟨d.key,[]⟩).vs d.ver).isSome=true)):=by
 unfold doK;simp only;split
 ·rename_i hk;cases e:A1q ((E8 l d.key).getD ⟨d.key,[]⟩).vs d.ver with
  | none=>simp
  | some j=>simp;right;right;simpa using hk
 ·split
  ·simp
  ·split
   ·simp
   ·split<;>simp
theorem B6u {l:List Ent} {seq:Int} {d:D} (h0:0<=seq) (hs:seq<E3) (hd:L3 d=true) (hr:A1M seq none l=true) (hl:l.length<=40):
  A1M (seq+1) none (doK l (seq+1) d).1=true/\(doK l (seq+1) d).1.length<=40/\0<=(doK l (seq+1) d).2.ver/\(doK l (seq+1) d).2.ver<=seq+1:=by
 have hr':=A7D hr (show seq<=seq+1 by omega);have old:∀ e:Ent,E8 l d.key=some e->A3c seq e:=fun e he=>((K3 seq l none).1 hr).1 e (A45 he);have hkey:A8A d.key=true:=by unfold L3 at hd;simp only [z7] at hd;exact hd.1.1.1.1
 have body:=(A22 hd).2.1;unfold doK;simp only;split
 ·rename_i hk;cases ea:E8 l d.key with
  | none=>
   simp only [Option.getD_none,A1q];exact⟨hr',hl,by simp;omega⟩
  | some x=>
   simp only [Option.getD_some,Option.isSome_some];cases e:A1q x.vs d.ver with
   | none=>exact⟨hr',hl,by simp;omega⟩
   | some j=>
    obtain⟨hj,hv⟩:=A6I e;have ho:=old x ea;have hks:=(Q0 ea).2;have hsub:(x.vs.take j++x.vs.drop (j+1)).Sublist x.vs:=by have:=(List.Sublist.refl (x.vs.take j)).append (List.drop_sublist_drop_left x.vs (Nat.le_succ j));rwa [List.take_append_drop] at this
    obtain⟨p1,p2,p3,p4⟩:=E1.1 ho.1;rw [R7] at p1;have hlen:(x.vs.take j++x.vs.drop (j+1)).length=x.vs.length-1:=by rw [z6,zf,zg];omega
    have hv1:1<=d.ver/\d.ver<=seq:=by rw [<-hv];have m:=List.getElem_mem hj;have a1:=p1.2.2 _ m;have a2:=ho.2 _ m;omega
    have key:∀ es:List Ent,es=(if (x.vs.take j++x.vs.drop (j+1)).length=0 then [] else [⟨x.key,x.vs.take j++x.vs.drop (j+1)⟩])->es.length<=1/\∀ e∈es,A3c (seq+1) e/\e.key=d.key:=by
     intro es hes;subst hes;split
     ·exact⟨by simp,fun e he=>by cases he⟩
     ·refine⟨by simp,fun e he=>?_⟩;rw [zx] at he;subst he;refine⟨⟨E1.2 ⟨(R7 _ _).2 ⟨fun v hv=>p1.1 v (hsub.subset hv),p1.2.1.sublist hsub,fun v hv=>p1.2.2 v (hsub.subset hv)⟩,p2,by simp only;omega,by simp only;omega⟩,fun v hv=>?_⟩,hks⟩;have:=ho.2 v (hsub.subset hv);omega
    obtain⟨k1,k2⟩:=key _ rfl;have r1:=A7E hr' k2 k1;have r2:=A7F (l:=l) (k:=d.key) k1 (.inr (by rw [ea];rfl)) hl;rw [ea] at r1 r2;exact⟨r1,r2,by simp only;omega,by simp only;omega⟩
 ·rename_i hk3;split
  ·exact⟨hr',hl,by simp;omega⟩
  ·split
   ·exact⟨hr',hl,by simp;omega⟩
   ·rename_i hk2;split
    ·exact⟨hr',hl,by simp;omega⟩
    ·rename_i hf;simp only [Bool.or_eq_true,z7,y0,not_or,Bool.not_eq_true'] at hf;have hfull:=hf.2;have hvlen:((E8 l d.key).getD ⟨d.key,[]⟩).vs.length<12:=by simpa using hf.1
     have hnew:A1C ⟨seq+1,d.kind==2,d.body⟩=true:=by
      have hm:E3=1099511627776:=rfl;unfold A1C;simp only [z7,y0,Bool.or_eq_true,Bool.not_eq_true'];refine⟨⟨⟨by omega,by omega⟩,by omega⟩,?_⟩;by_cases k2:d.kind=2
      ·right;unfold L3 at hd;rw [k2] at hd;simp only [z7] at hd;have:=hd.2;simp only [show ((2:Int)==1)=false by decide,show ((2:Int)==2)=true by decide,Bool.false_eq_true,if_false,if_true,z7] at this;exact this.1.1.1
      ·left;simpa using k2
     have hold:∀ x:Ent,x=(E8 l d.key).getD ⟨d.key,[]⟩->A9t 0 x.vs=true/\x.key=d.key/\∀ v∈x.vs,v.ver<=seq:=by
      intro x hx;cases ea:E8 l d.key with
      | none=>rw [ea] at hx;subst hx;exact⟨rfl,rfl,fun v hv=>by cases hv⟩
      | some y=>
       rw [ea] at hx;subst hx;have ho:=old _ ea;exact⟨(E1.1 ho.1).1,(Q0 ea).2,ho.2⟩
     obtain⟨q1,q2,q3⟩:=hold _ rfl;generalize (E8 l d.key).getD ⟨d.key,[]⟩=x at*;rw [R7] at q1;have k2:∀ e∈([⟨x.key,x.vs++[⟨seq+1,d.kind==2,d.body⟩]⟩]:List Ent),A3c (seq+1) e/\e.key=d.key:=by
      intro e he;rw [zx] at he;subst he;refine⟨⟨E1.2 ⟨(R7 _ _).2 ⟨fun v hv=>?_,?_,fun v hv=>?_⟩,by simp only;rw [q2];exact hkey,by simp,by simp;omega⟩,fun v hv=>?_⟩,q2⟩
      ·simp only [List.mem_append,zx] at hv;rcases hv with hv | hv
       ·exact q1.1 v hv
       ·rw [hv];exact hnew
      ·rw [List.pairwise_append];refine⟨q1.2.1,List.pairwise_singleton ..,fun a ha b hb=>?_⟩;rw [zx] at hb;subst hb;have:=q3 a ha;simp only;omega
      ·simp only [List.mem_append,zx] at hv;rcases hv with hv | hv
       ·exact q1.2.2 v hv
       ·rw [hv];simp only;omega
      ·simp only [List.mem_append,zx] at hv;rcases hv with hv | hv
       ·have:=q3 v hv;omega
       ·rw [hv];simp only;omega
     refine⟨A7E hr' k2 (by simp),A7F (by simp) ?_ hl,by simp only;omega,by simp only;omega⟩;by_cases c:(E8 l d.key).isSome=true
     ·exact .inr c
     ·left;rcases zl l.length 40 with h | h
      ·exact h
      ·exact absurd ⟨by simpa using c,h⟩ hfull
theorem C5 {s:Stt}:T5 s=true↔(0<=s.seq/\s.seq<=E3)/\(s.l.length<=40/\s.ms.length<=100)/\A1M s.seq none s.l=true/\A0g 0 s.lows=true/\A1D s.lows s.seq none s.ms=true:=by simp [T5,and_assoc]
theorem A7G {s:Stt} {d:D} (hl5:s.lows.length=5) (h:T5 s=true):T5 (doS s d).1=true:=by
 obtain⟨⟨a1,a2⟩,⟨a3,a4⟩,a5,a6,a7⟩:=C5.1 h;have more:E3<=s.seq\/T5 ⟨s.seq+1,s.l,s.ms,s.lows⟩=true:=by
  rcases Int.lt_or_le s.seq E3 with c | c
  ·exact .inr (C5.2 ⟨⟨by simp only;omega,by simp only;omega⟩,⟨a3,a4⟩,A7D a5 (by simp only;omega),a6,A7C a7 (by simp only;omega)⟩)
  ·exact .inl c
 unfold doS;split
 ·exact h
 rename_i c1;have hd:L3 d=true:=by
  cases e:L3 d
  ·simp [e] at c1
  ·rfl
 split
 ·exact h
 rename_i c2;have more:T5 ⟨s.seq+1,s.l,s.ms,s.lows⟩=true:=more.resolve_left c2;split
 ·exact more
 rename_i c3;split
 ·exact more
 rename_i c4;split
 ·exact more
 rename_i c5;obtain⟨b1,b2,b3,b4⟩:=B6u (d:=d) a1 (by omega) hd a5 a3;obtain⟨e1,e2,_⟩:=B46 s.l (s.seq+1) d;have hh:=R6 d.req;have hne:S6 d.req≠0:=by unfold L3 at hd;simp only [z7,Bool.not_eq_true',y4,ne_eq] at hd;exact hd.1.1.1.2
 have hm:A1D s.lows (s.seq+1) none (s.ms.take (N5 s.ms d.req)++⟨d.req,(doK s.l (s.seq+1) d).2⟩::s.ms.drop (N5 s.ms d.req))=true:=by refine B2Z (m:=⟨d.req,_⟩) (A7C a7 (by omega)) c4 ?_;unfold okM;simp only [z7,y0,Bool.not_eq_true',y4,ne_eq];exact⟨⟨⟨⟨⟨hne,by omega⟩,e1⟩,e2⟩,b3⟩,b4⟩
 have hlen:(s.ms.take (N5 s.ms d.req)++⟨d.req,(doK s.l (s.seq+1) d).2⟩::s.ms.drop (N5 s.ms d.req)).length<=100:=by rw [z6,zi,zf,zg];omega
 simp only;split
 ·rename_i c6;refine C5.2 ⟨⟨by simp only;omega,by simp only;omega⟩,⟨b2,zo (List.length_filter_le ..) hlen⟩,b1,A91 a6 (by omega) c6.2,A90 hl5 (by omega) hm⟩
 ·exact C5.2 ⟨⟨by simp only;omega,by simp only;omega⟩,⟨b2,hlen⟩,b1,a6,hm⟩
theorem M6 (g:V->Int) (hg:∀ v,1<=g v) (b:Nat):∀ (l:List V) (n:Int),(∀ x∈l,g x<=b)->n+(b*l.length:Nat)<=6000->A0d g l n<=n+(b*l.length:Nat)
 | [],n,h,hn=>by rw [A0d];simp
 | x::r,n,h,hn=>by
  have hx:=h x (by simp);have e:b*(x::r).length=b+b*r.length:=by rw [zi,Nat.mul_succ,Nat.add_comm]
  rw [e] at hn ⊢;rw [C4,y7 (by omega)];have:=M6 g hg b r (n+g x) (fun y hy=>h y (by simp [hy])) (by omega);omega
theorem I6 (f:Nat) (l:List V):cnt (f+1) (P9 l)=A0d (cnt f) l 1:=by simp [P9,cnt,mt,D3]
theorem L8 (f:Nat) (n:Int):cnt (f+1) (O7 n)=1:=by simp [O7,cnt,mt,D3]
theorem A3d (f:Nat) (s:ByteArray):cnt (f+1) (vStr s)=1:=by simp [vStr,cnt]
theorem B47 (v:Ver):cnt 2 (B41 v)=4:=by simp [B41,I6,L8,A3d,A0d]
theorem B48 (f:Nat) (m:Mem):cnt (f+2) (B43 m)=4:=by simp [B43,I6,L8,A0d]
theorem B49 (e:Ent) (h:e.vs.length<=12):cnt 4 (B42 e)<=51:=by have h1:=M6 (cnt 2) (fun v=>(L4 2 v).1) 4 (e.vs.map B41) 1 (fun x hx=>by obtain⟨v,_,rfl⟩:=List.mem_map.1 hx;rw [B47];decide) (by rw [zj];omega);rw [zj] at h1;rw [B42,I6,C4,A3d,y7 (by decide),C4,I6,y7 (by omega),A0d];omega
theorem A93 (s:Stt) (h5:s.lows.length=5) (h:T5 s=true):A2z (B4N s)=true:=by obtain⟨_,⟨a3,a4⟩,a5,_,_⟩:=C5.1 h;have he:=((K3 _ _ _).1 a5).1;have h1:=M6 (cnt 4) (fun v=>(L4 4 v).1) 51 (s.l.map B42) 1 (fun x hx=>by obtain⟨e,hm,rfl⟩:=List.mem_map.1 hx;exact B49 e (E1.1 (he e hm).1).2.2.2) (by rw [zj];omega);have h2:=M6 (cnt 4) (fun v=>(L4 4 v).1) 4 (s.ms.map B43) 1 (fun x hx=>by obtain⟨e,hm,rfl⟩:=List.mem_map.1 hx;rw [B48];decide) (by rw [zj];omega);have h3:=M6 (cnt 4) (fun v=>(L4 4 v).1) 1 (s.lows.map O7) 1 (fun x hx=>by obtain⟨e,hm,rfl⟩:=List.mem_map.1 hx;rw [L8];decide) (by rw [zj];omega);rw [zj] at h1 h2 h3;rw [A2z,y0,B4N,I6,C4,L8,y7 (by decide),C4,I6,y7 (by omega),C4,I6,y7 (by omega),C4,I6,y7 (by omega),A0d];omega
theorem M7 (b:Nat):∀ l:List V,(∀ x∈l,(J1 x).length<=b)->(M5 l).length<=b*l.length
 | [],_=>by rw [M5];simp
 | x::r,h=>by have h1:=h x (by simp);have h2:=M7 b r fun y hy=>h y (by simp [hy]);rw [M5,z6,zi,Nat.mul_succ];omega
theorem A0h (l:List V):I2 (P9 l)=M5 l:=by simp [P9,I2]
theorem O0 (l:List V) (b:Nat) (h:(M5 l).length<=b) (hb:b<10000000):(J1 (P9 l)).length<=b+9:=by rw [F6,A0h];have:=I3 (u:=(M5 l).length) (by omega);omega
theorem A3e {n:Int} (h:S6 n≠0):4294967296<=n/\n<25769803776:=by unfold S6 at h;split at h<;>omega
theorem A7H {lows:List Int} {seq:Int} {m:Mem} (hs:seq<=E3) (h:okM lows seq m=true):B3 m.req/\B3 m.res.err/\B3 m.res.ver:=by unfold okM at h;simp only [z7,y0,Bool.not_eq_true',y4,ne_eq] at h;have:=A3e h.1.1.1.1.1;have hm:E3=1099511627776:=rfl;unfold B3;omega
theorem B2b (m:Mem) (h:B3 m.req/\B3 m.res.err/\B3 m.res.ver):(J1 (B43 m)).length<=99:=by have a1:=D5 _ h.1;have a2:=D5 _ h.2.1;have a3:=D5 _ h.2.2;refine O0 _ 90 ?_ (by decide);simp only [M5,z6,List.length_nil];omega
theorem A0i {v:Ver} (h:A1C v=true):B3 v.ver/\v.body.size<=300:=by unfold A1C at h;simp only [z7,y0] at h;unfold B3;omega
theorem B2c (v:Ver) (h:A1C v=true):(J1 (B41 v)).length<=378:=by obtain⟨h1,h2⟩:=A0i h;have a1:=D5 _ h1;have a2:=D5 (if v.gone then 1 else 0) (by unfold B3;split<;>omega);have a3:=M2 v.body (by omega);refine O0 _ 369 ?_ (by decide);simp only [M5,z6,List.length_nil];omega
theorem A0j {seq:Int} {e:Ent} (h:A3c seq e):∀ v∈e.vs,A1C v=true:=((R7 _ _).1 (E1.1 h.1).1).1
theorem B2d {seq:Int} (e:Ent) (h:A3c seq e):(J1 (B42 e)).length<=4603:=by
 obtain⟨_,h2,_,h4⟩:=E1.1 h.1;have a1:=M2 e.key (by have:=A1N h2;omega);have a2:=M7 378 (e.vs.map B41) fun x hx=>by obtain⟨v,hv,rfl⟩:=List.mem_map.1 hx;exact B2c v (A0j h v hv)
 rw [zj] at a2;have a3:=O0 (e.vs.map B41) 4536 (by omega) (by decide);have:=A1N h2;refine O0 _ 4594 ?_ (by decide);simp only [M5,z6,List.length_nil];omega
theorem A7I (s:Stt) (h5:s.lows.length=5) (h:T5 s=true):(I2 (B4N s)).length<=200000:=by
 obtain⟨⟨a1,a2⟩,⟨a3,a4⟩,a5,a6,a7⟩:=C5.1 h;have hm:E3=1099511627776:=rfl;have he:=((K3 _ _ _).1 a5).1;have hM:=((R5 _ _ _ _).1 a7).1;have b1:=M7 4603 (s.l.map B42) fun x hx=>by obtain⟨v,hv,rfl⟩:=List.mem_map.1 hx;exact B2d v (he v hv)
 have b2:=M7 99 (s.ms.map B43) fun x hx=>by obtain⟨v,hv,rfl⟩:=List.mem_map.1 hx;exact B2b v (A7H a2 (hM v hv))
 have b3:=M7 30 (s.lows.map O7) fun x hx=>by
  obtain⟨v,hv,rfl⟩:=List.mem_map.1 hx;obtain⟨j,hj⟩:=List.getElem?_of_mem hv;refine D5 v ?_;rcases (A0J _ _).1 a6 j v hj with h | h
  ·subst h;unfold B3;omega
  ·have:=A3e (n:=v) (by omega);unfold B3;omega
 rw [zj] at b1 b2 b3;have c0:=D5 s.seq (by unfold B3;omega);have c1:=O0 (s.l.map B42) 184120 (by omega) (by decide);have c2:=O0 (s.ms.map B43) 9900 (by omega) (by decide);have c3:=O0 (s.lows.map O7) 150 (by omega) (by decide);rw [B4N,A0h];simp only [M5,z6,List.length_nil];omega
theorem A6J (l:List V) (h:okL l):okV (P9 l):=by rw [P9,okV];exact⟨by unfold B3;omega,h⟩
theorem A1v (n:Int) (h:B3 n):okV (O7 n):=by rw [O7,okV,okL];exact⟨h,trivial⟩
theorem A8D (s:Stt) (h5:s.lows.length=5) (h:T5 s=true):A00 s=J1 (B4N s):=by have h1:=A7I s h5 h;have:=I3 (u:=(I2 (B4N s)).length) (by omega);rw [A00,y6 h,A4T,A93 s h5 h];simp [this]
theorem A02 (a b:ByteArray):(a.toList==b.toList)=D3 a b:=by rw [ByteArray.toList_eq,ByteArray.toList_eq];rfl
theorem A7J (d:Nat) (w:World) (a b:Ver):(Op.equalIn (d+2) 147 (.agg (K2 a).toArray) (.agg (K2 b).toArray)).run Tryz.prog w=.ok (B2V a b) w:=by
 have e:=run_equalIn_struct (P:=Tryz.prog) w (d+1) 147 (K2 a).toArray (K2 b).toArray (by kernel_rfl) (by kernel_rfl);rw [e];have hf:(Tryz.prog.fieldsOf 147).toList=(match Tryz.prog.underlying 147 with | some (.struct fs)=>fs.toList | _=>[]):=by kernel_rfl
 rw [hf,Tryz.underlying147];simp [K2,B2V,<-A02,Op.eqFields,run_equalIn_int _ _ _ _ _ _ _ Tryz.underlying2,run_equalIn_bool' _ _ _ _ _ Tryz.underlying4,run_equalIn_string _ _ _ _ _ Tryz.underlying9,part,isAgg,run_underlying Tryz.underlying2,run_underlying Tryz.underlying4,run_underlying Tryz.underlying9];by_cases h1:a.ver=b.ver<;>by_cases h2:a.gone=b.gone<;>by_cases h3:a.body.toList=b.body.toList<;>simp [h1,h2,h3]
theorem A3f (d:Nat) (w:World) (a b:Res):(Op.equalIn (d+2) 36 (.agg #[.int .i64 a.err,.int .i64 a.ver]) (.agg #[.int .i64 b.err,.int .i64 b.ver])).run Tryz.prog w=.ok (a.err==b.err&&a.ver==b.ver) w:=by
 have e:=run_equalIn_struct (P:=Tryz.prog) w (d+1) 36 #[.int .i64 a.err,.int .i64 a.ver] #[.int .i64 b.err,.int .i64 b.ver] (by kernel_rfl) (by kernel_rfl);rw [e];have hf:(Tryz.prog.fieldsOf 36).toList=(match Tryz.prog.underlying 36 with | some (.struct fs)=>fs.toList | _=>[]):=by kernel_rfl
 rw [hf,Tryz.underlying36];simp [Op.eqFields,run_equalIn_int _ _ _ _ _ _ _ Tryz.underlying2,run_equalIn_int _ _ _ _ _ _ _ Tryz.underlying34,part,isAgg,run_underlying Tryz.underlying2,run_underlying Tryz.underlying34];by_cases h1:a.err=b.err<;>by_cases h2:a.ver=b.ver<;>simp [h1,h2]
theorem B2e (w:World):(Go.sizeOf 36).run Tryz.prog w=.ok 2 w:=by kernel_rfl
theorem A7K (d:Nat) (w:World) (a b:Mem):(Op.equalIn (d+3) 101 (.agg (F7 a).toArray) (.agg (F7 b).toArray)).run Tryz.prog w=.ok (B40 a b) w:=by
 have e:=run_equalIn_struct (P:=Tryz.prog) w (d+2) 101 (F7 a).toArray (F7 b).toArray (by kernel_rfl) (by kernel_rfl);rw [e];have hf:(Tryz.prog.fieldsOf 101).toList=(match Tryz.prog.underlying 101 with | some (.struct fs)=>fs.toList | _=>[]):=by kernel_rfl
 rw [hf,Tryz.underlying101];have hr:∀ w,(Op.equalIn (d+2) 36 (.agg #[.int .i64 a.res.err,.int .i64 a.res.ver]) (.agg #[.int .i64 b.res.err,.int .i64 b.res.ver])).run Tryz.prog w=.ok (a.res.err==b.res.err&&a.res.ver==b.res.ver) w:=fun w=>A3f d w a.res b.res;simp [F7,B40,Op.eqFields,run_equalIn_int _ _ _ _ _ _ _ Tryz.underlying2,part,isAgg,run_underlying Tryz.underlying2,run_underlying Tryz.underlying36,B2e,hr];by_cases h1:a.req=b.req<;>by_cases h2:a.res.err=b.res.err<;>by_cases h3:a.res.ver=b.res.ver<;>simp [h1,h2,h3]
def eqD (a b:D):Bool:=a.kind==b.kind&&(D3 a.key b.key&&(D3 a.body b.body&&(a.ver==b.ver&&(a.cond==b.cond&&(D3 a.tag b.tag&&(a.req==b.req&&a.low==b.low))))))
theorem B4O (d:Nat) (w:World) (a b:D):(Op.equalIn (d+2) 45 (.agg (dC a).toArray) (.agg (dC b).toArray)).run Tryz.prog w=.ok (eqD a b) w:=by
 have e:=run_equalIn_struct (P:=Tryz.prog) w (d+1) 45 (dC a).toArray (dC b).toArray (by kernel_rfl) (by kernel_rfl);rw [e];have hf:(Tryz.prog.fieldsOf 45).toList=(match Tryz.prog.underlying 45 with | some (.struct fs)=>fs.toList | _=>[]):=by kernel_rfl
 rw [hf,Tryz.underlying45];simp [dC,eqD,<-A02,Op.eqFields,run_equalIn_int _ _ _ _ _ _ _ Tryz.underlying2,run_equalIn_int _ _ _ _ _ _ _ Tryz.underlying3,run_equalIn_string _ _ _ _ _ Tryz.underlying9,part,isAgg,run_underlying Tryz.underlying2,run_underlying Tryz.underlying3,run_underlying Tryz.underlying9];by_cases h1:a.kind=b.kind;rotate_left
 ·simp [h1]
 by_cases h2:a.key.toList=b.key.toList;rotate_left
 ·simp [h1,h2]
 by_cases h3:a.body.toList=b.body.toList;rotate_left
 ·simp [h1,h2,h3]
 by_cases h4:a.ver=b.ver;rotate_left
 ·simp [h1,h2,h3,h4]
 by_cases h5:a.cond=b.cond;rotate_left
 ·simp [h1,h2,h3,h4,h5]
 by_cases h6:a.tag.toList=b.tag.toList;rotate_left
 ·simp [h1,h2,h3,h4,h5,h6]
 by_cases h7:a.req=b.req<;>by_cases h8:a.low=b.low<;>simp [h1,h2,h3,h4,h5,h6,h7,h8]
theorem A1w {T:TypeId} {xs ys:Array Value} {r:Bool} (hm:Tryz.prog.eqGuardType Tryz.prog.depth T=false) (h:∀ w,(Op.equalIn 10000 T (.agg xs) (.agg ys)).run Tryz.prog w=.ok r w) (ox oy:Operand) (w:World):
  (do eqGuard .eql T ox oy (.agg xs) (.agg ys);Go.binOp .eql T (.agg xs) (.agg ys):Sem Value).run Tryz.prog w=.ok (.bool r) w:=by
 simp only [Sem.run_bind,run_eqGuard_agg w .eql T ox oy xs ys hm,Result.andThen_ok,run_eql_struct,h]
theorem A1x {T:TypeId} {xs ys:Array Value} {r:Bool} (hm:Tryz.prog.eqGuardType Tryz.prog.depth T=false) (h:∀ w,(Op.equalIn 10000 T (.agg xs) (.agg ys)).run Tryz.prog w=.ok r w) (ox oy:Operand) (w:World):
  (do eqGuard .neq T ox oy (.agg xs) (.agg ys);Go.binOp .neq T (.agg xs) (.agg ys):Sem Value).run Tryz.prog w=.ok (.bool (!r)) w:=by
 simp only [Sem.run_bind,run_eqGuard_agg w .neq T ox oy xs ys hm,Result.andThen_ok,run_neq_struct,h]
theorem B4P:Tryz.prog.eqGuardType Tryz.prog.depth 147=false:=by kernel_rfl
theorem B4Q:Tryz.prog.eqGuardType Tryz.prog.depth 36=false:=by kernel_rfl
theorem B4R:Tryz.prog.eqGuardType Tryz.prog.depth 101=false:=by kernel_rfl
theorem A94:Tryz.prog.eqGuardType Tryz.prog.depth 45=false:=by kernel_rfl
theorem I7 (l:List Ver):Flat 3 (l.map K2):=Flat.map K2 (fun _=>⟨rfl,rfl⟩) l
theorem RowV.elem {S:Nat->Prop} {w:World} {A:Option Addr} {n cap:Nat} {l:List Ver} (hR:Row S w A n cap (l.map K2).flatten) (i:Nat) (hi:i<l.length):∃ ad,A=some ad/\Go.Vc.cellsAt w (ad.add (i*3)) (K2 l[i]) 0:=by obtain⟨ad,e,h⟩:=Row.elemF hR (by decide) (I7 l) i (by rw [zj];exact hi);rw [List.getElem_map] at h;exact⟨ad,e,h⟩
theorem D4 {S:Nat->Prop} {w:World} {A:Option Addr} {n cap:Nat} {xs:List Value} (hR:Row S w A n cap xs):n<=9223372036854775807:=zo (zo hR.1 hR.2.1) (by decide)
theorem A46 {l:List Ver} (h:l.length-1<l.length):G5 l=l[l.length-1]:=by unfold G5;rw [List.getLastD_eq_getLast?,List.getLast?_eq_getElem?,List.getElem?_eq_getElem h];rfl
theorem A6K (v:Ver) (w:World):Calls Tryz.prog 206 #[.agg (K2 v).toArray] w (C8 (.bool (A1C v)) w):=by
 refine vE Tryz.func206 ?_;intro g w1 h1;have hc:=((Ctx.start w no (fun _ h=>h.elim)).loc h1).1
 repeat' (first | refine B0 (by assumption) ?_ | refine C3X (by assumption) ?_ | refine X4 (by decide) ?_ | refine hc.c 0 rfl rfl ?_ | refine A0x (fun _=>?_) (fun _=>?_))
 all_goals (refine⟨B7 ?_,hc.below⟩)
 all_goals clear hc h1
 all_goals try simp only [Bool.not_eq_true',Bool.not_eq_false'] at*
 all_goals simp only [A1C,mt, *]
 all_goals first | rfl | (simp;done) | skip
theorem A95 (e:Ent) (A:Option Addr) (cap:Nat) (S:Nat->Prop) (w:World) (hR:Row S w A e.vs.length cap (e.vs.map K2).flatten):
  Calls Tryz.prog 293 #[.agg #[.string e.key,.slice A e.vs.length cap]] w (C8 (.tuple #[.agg (K2 (A4y e).1).toArray,.bool (A4y e).2]) w):=by
 refine vE Tryz.func293 ?_;intro g1 w1 h1;have hc:=((Ctx.start w no (fun _ h=>h.elim)).loc h1).1;refine hc.n fun g2 w2 h2 hc=>?_;refine hc.c 1 rfl rfl ?_;have hM:=D4 hR;by_cases h0:e.vs.length=0
 ·refine B0 (by show ((e.vs.length:Int)==0)=true;rw [h0];rfl) ?_
  repeat (first | (intro gA wA hA;have hc:=(hc.loc hA).1) | refine hc.c 0 rfl rfl ?_ | (refine⟨_,?_,hc.cells 0 rfl,?_⟩;(· rfl)) | (refine⟨hc.may 0 rfl _ _ (nle rfl) rfl,?_⟩;intro wA hA;have hc:=(hc.set 0 rfl hA).1) | refine hc.c 1 rfl rfl ?_ | (refine⟨_,?_,hc.cells 1 rfl,?_⟩;(· rfl)) | (refine⟨hc.may 1 rfl _ _ (nle rfl) rfl,?_⟩;intro wA hA;have hc:=(hc.set 1 rfl hA).1) | refine hc.c 2 rfl rfl ?_ | (refine⟨_,?_,hc.cells 2 rfl,?_⟩;(· rfl)) | (refine⟨hc.may 2 rfl _ _ (nle rfl) rfl,?_⟩;intro wA hA;have hc:=(hc.set 2 rfl hA).1) | refine hc.c 3 rfl rfl ?_ | (refine⟨_,?_,hc.cells 3 rfl,?_⟩;(· rfl)) | (refine⟨hc.may 3 rfl _ _ (nle rfl) rfl,?_⟩;intro wA hA;have hc:=(hc.set 3 rfl hA).1) | refine hc.c 4 rfl rfl ?_ | (refine⟨_,?_,hc.cells 4 rfl,?_⟩;(· rfl)) | (refine⟨hc.may 4 rfl _ _ (nle rfl) rfl,?_⟩;intro wA hA;have hc:=(hc.set 4 rfl hA).1))
  rw [A4y,y6 h0];exact⟨rfl,hc.below⟩
 refine C3X (by show ((e.vs.length:Int)==0)=false;rw [y4];omega) ?_;have hlt:e.vs.length-1<e.vs.length:=by omega
 obtain⟨ad,rfl,hcell⟩:=RowV.elem (hR.below hc.below) (e.vs.length-1) hlt;have hw:IntKind.i64.wrap ((e.vs.length:Int)-1)=((e.vs.length-1:Nat):Int):=by rw [IntWalk.i64_in _ ⟨by omega,by omega⟩];omega
 refine hc.c 1 rfl rfl ?_;refine hc.c 1 rfl rfl ?_;refine⟨⟨by rw [hw];omega,by rw [hw];omega⟩,?_⟩;refine⟨K2 e.vs[e.vs.length-1],rfl,by rw [hw,zh];exact hcell,?_⟩;refine hc.n fun g4 w4 h4 hc=>?_;refine⟨hc.may 0 rfl 0 _ (zc 3) rfl,?_⟩;intro w5 h5;have hc:=(hc.set 0 rfl h5).1;refine vD (.Q [0,1,2,3] (.n 4 (.q 5 .fin) .stop)) (fun x=>x.cell? ⟨g4,0,none⟩=some (.int .i64 e.vs[e.vs.length-1].ver)/\x.cell? ⟨g4,1,none⟩=some (.bool e.vs[e.vs.length-1].gone)/\x.cell? ⟨g4,2,none⟩=some (.string e.vs[e.vs.length-1].body)) ⟨hc.cell 0 rfl _ rfl,hc.cell 0 rfl _ rfl,hc.cell 0 rfl _ rfl⟩ ?_;have hc:=hc.drew;refine⟨K2 e.vs[e.vs.length-1],rfl,fun x hx=>⟨hx.1,hx.2.1,hx.2.2,trivial⟩,?_⟩;refine⟨_,fun x hx=>hx.2.1,?_⟩;refine⟨⟨hc.may 1 rfl 0 _ (zc 3) rfl,?_⟩,trivial⟩;intro w6 h6;have hc:=(hc.set 1 rfl h6).1;refine⟨⟨hc.cell 0 rfl _ rfl,hc.cell 0 rfl _ rfl,hc.cell 0 rfl _ rfl⟩,?_⟩;refine hc.a 1 rfl rfl ?_;refine⟨?_,hc.below⟩;rw [A4y,y7 h0,A46 hlt];rfl
theorem A1y (e:Ent) (c:Int) (tag:ByteArray) (A:Option Addr) (cap:Nat) (S:Nat->Prop) (w:World) (hR:Row S w A e.vs.length cap (e.vs.map K2).flatten) (hb:(A4y e).1.body.size<=maxLen):
  Calls Tryz.prog 270 #[.agg #[.string e.key,.slice A e.vs.length cap],.int .i64 c,.string tag] w (C8 (.bool (I4 e c tag)) w):=by
 refine vE Tryz.func270 ?_;intro g1 w1 h1;have hc:=((Ctx.start w no (fun _ h=>h.elim)).loc h1).1;refine hc.a 0 rfl rfl ?_;refine hc.q (A95 e A cap S w1 (hR.below hc.below)) fun w2 h2 hc=>?_;refine hc.n fun g4 w4 h4 hc=>?_;unfold I4;generalize A4y e=q at*;obtain⟨v,is⟩:=q;simp only at hb ⊢;refine⟨hc.may 0 rfl 0 _ (zc 3) rfl,?_⟩;intro w5 h5;have hc:=(hc.set 0 rfl h5).1;cases c0:(c==0);rotate_left
 ·refine B0 c0 ?_;exact⟨rfl,hc.below⟩
 refine C3X c0 ?_;cases c1:(c==1);rotate_left
 ·refine B0 c1 ?_;exact⟨rfl,hc.below⟩
 refine C3X c1 ?_;cases c2:(c==2)
 ·refine C3X c2 ?_;exact⟨rfl,hc.below⟩
 refine B0 c2 ?_;cases is
 ·exact⟨rfl,hc.below⟩
 refine hc.c 0 rfl rfl ?_;refine hc.q (B4u v.body hb _) fun w6 h6 hc=>?_;exact⟨rfl,hc.below⟩
def B5A (o:Option Nat):Int:=match o with | some i=>(i:Int) | none => -1
theorem A8E (v:Ver) (a:Addr) (n:Int) (w:World) (ha:w.cell? a=some (.int .i64 n)):Calls Tryz.prog 338 #[.agg (K2 v).toArray,.pointer (some a)] w (C8 (.bool (v.ver==n)) w):=by obtain⟨ab,ao,asub⟩:=a;refine vE Tryz.func338 ?_;intro g w1 h1;have hc:=((Ctx.start w no (fun _ h=>h.elim)).loc h1).1;refine hc.c 0 rfl rfl ?_;refine⟨_,cell_later hc.below ha,?_⟩;exact⟨rfl,hc.below⟩
theorem A47 (l:List Ver) (n:Int):∀ i,i<=l.length->(∀ j (hj:j<l.length),j<i->(l[j].ver==n)=false)->A1q l n=(A1q (l.drop i) n).map (·+i):=by
 intro i;induction i with
 | zero=>intro _ _;simp
 | succ i ih=>
  intro hi h;have hlt:i<l.length:=by omega
  rw [ih (by omega) fun j hj hji=>h j hj (by omega),List.drop_eq_getElem_cons hlt,A1q,h i hlt (by omega)];simp only [Bool.false_eq_true,if_false,Option.map_map];congr 1;funext x;simp only [Function.comp_apply];omega
theorem A2m (l:List Ver) (n:Int) (a:Addr) (A:Option Addr) (cap:Nat) (S:Nat->Prop) (w:World) (hR:Row S w A l.length cap (l.map K2).flatten) (ha:w.cell? a=some (.int .i64 n)):
  Calls Tryz.prog 337 #[.slice A l.length cap,.func (.func 338) #[] #[.pointer (some a)]] w (C8 (.int .i64 (B5A (A1q l n))) w):=by
 refine vE Tryz.func337 ?_;have hM:=D4 hR;refine⟨Nat,fun i=>[(0,.slice A l.length cap),(1,.func (.func 338) #[] #[.pointer (some a)]),(7,.int .i64 l.length),(8,.int .i64 i)],
  fun i w'=>i<=l.length/\(∀ j (hj:j<l.length),j<i->(l[j].ver==n)=false)/\Below w.heap.size w w',fun i _=>l.length-i,0,
  ⟨rfl,rfl,rfl,rfl,trivial⟩,⟨zb _,fun j hj h=>absurd h (Nat.not_lt_zero _),Below.refl _ _⟩,?_⟩
 rintro i w' u ⟨hi,he,hb⟩;by_cases hlt:i<l.length
 ·refine dt (by omega) ?_;obtain⟨ad,rfl,hcell⟩:=RowV.elem (hR.below hb) i hlt;refine⟨⟨by omega,by omega⟩,?_⟩;refine⟨K2 l[i],rfl,hcell,?_⟩;refine B4 (A8E l[i] a n w' (cell_later hb ha)) ?_;intro w2 h2;have hb2:=hb.trans (h2.mono hb.size);cases hv:(l[i].ver==n)
  ·refine⟨i+1,⟨rfl,rfl,rfl,y5 _ (C3 (by omega)),trivial⟩,⟨hlt,fun j hj h=>?_,hb2⟩,by show l.length-(i+1)<l.length-i;omega⟩;rcases Nat.lt_succ_iff_lt_or_eq.1 h with h | h
   ·exact he j hj h
   ·subst h;exact hv
  ·refine⟨?_,hb2⟩;rw [A47 l n i hi he,List.drop_eq_getElem_cons hlt,A1q,hv];show Ending.returned (.int .i64 (i:Int))=Ending.returned (.int .i64 ((0+i:Nat):Int));rw [zm]
 ·refine df (by omega) ?_;refine⟨?_,hb⟩;rw [A47 l n i hi he,zq (by omega),A1q];rfl
theorem A96 (e:Ent) (n:Int) (A:Option Addr) (cap:Nat) (S:Nat->Prop) (w:World) (hR:Row S w A e.vs.length cap (e.vs.map K2).flatten):
  Calls Tryz.prog 320 #[.agg #[.string e.key,.slice A e.vs.length cap],.int .i64 n] w (C8 (.int .i64 (B5A (A1q e.vs n))) w):=by
 refine vE Tryz.func320 ?_;intro g1 w1 h1;have hc:=((Ctx.start w no (fun _ h=>h.elim)).loc h1).1;refine hc.n fun g2 w2 h2 hc=>?_;refine hc.c 1 rfl rfl ?_;refine B4 (A2m e.vs n ⟨g2,0,none⟩ A cap S w2 (hR.below hc.below) (hc.cell 0 rfl _ rfl)) ?_;intro w3 h3;exact⟨rfl,(hc.quiet h3).1.below⟩
theorem B2f (e:Ent) (hk:X6 e.key) (A:Option Addr) (cap:Nat) (S:Nat->Prop) (w:World) (hR:Row S w A e.vs.length cap (e.vs.map K2).flatten):
  Calls Tryz.prog 159 #[.agg #[.string e.key,.slice A e.vs.length cap]] w (C8 (.bool (A50 e)) w):=by
 refine vE Tryz.func159 ?_;intro g1 w1 h1;have hc:=((Ctx.start w no (fun _ h=>h.elim)).loc h1).1;refine hc.c 0 rfl rfl ?_;have hM:=D4 hR;refine⟨Nat × Int,fun x=>[(1,.pointer (some ⟨g1,0,none⟩)),(3,.int .i64 x.2),(7,.slice A e.vs.length cap),(8,.int .i64 e.vs.length),(9,.int .i64 x.1)],
  fun x w'=>x.1<=e.vs.length/\A9t x.2 (e.vs.drop x.1)=A9t 0 e.vs/\Ctx no w no w' [(g1,99,[.string e.key,.slice A e.vs.length cap])],fun x _=>e.vs.length-x.1,(0,0),
  ⟨rfl,rfl,rfl,rfl,rfl,trivial⟩,⟨zb _,rfl,hc⟩,?_⟩
 rintro⟨i,last⟩ w' u ⟨hi,he,hc⟩;simp only at hi he;by_cases hlt:i<e.vs.length
 ·refine dt (by show (i:Int)<(e.vs.length:Int);omega) ?_;obtain⟨ad,rfl,hcell⟩:=RowV.elem (hR.below hc.below) i hlt;rw [List.drop_eq_getElem_cons hlt,A9t] at he;generalize e.vs[i]=v at*;refine⟨⟨by omega,by omega⟩,?_⟩;refine⟨K2 v,rfl,hcell,?_⟩;refine hc.n fun g5 w5 h5 hc=>?_;refine⟨hc.may 0 rfl 0 _ (zc 3) rfl,?_⟩;intro w6 h6;have hc:=(hc.set 0 rfl h6).1;refine⟨K2 v,rfl,hc.cells 0 rfl,?_⟩;refine hc.q (A6K v _) fun w7 h7 hc=>?_;have out:(A1C v&&decide (last<v.ver))=false->C8 (.bool (A50 e)) w (.returned (.bool false)) w7:=fun h=>⟨by rw [h] at he;rw [A50,<-he];rfl,hc.below⟩;cases hv:A1C v
  ·refine out ?_;rw [hv];rfl
  ·refine hc.c 0 rfl rfl ?_;by_cases hl:last<v.ver
   ·refine df (by show ¬ v.ver<=last;omega) ?_;refine hc.c 0 rfl rfl ?_;refine⟨(i+1,v.ver),⟨rfl,rfl,rfl,rfl,y5 _ (C3 (by omega)),trivial⟩,⟨hlt,?_,hc.drop⟩,by show e.vs.length-(i+1)<e.vs.length-i;omega⟩;rw [<-he,hv,zy hl];rfl
   ·refine dt (by show v.ver<=last;omega) ?_;refine out ?_;rw [zz hl,Bool.and_false]
 ·refine df (by show ¬ (i:Int)<(e.vs.length:Int);omega) ?_;rw [zq (by omega),A9t] at he;have em:A50 e=(A8A e.key&&decide (1<=e.vs.length)&&decide (e.vs.length<=12)):=by rw [A50,<-he];rfl
  rw [em];refine hc.c 0 rfl rfl ?_;refine hc.q (A9b e.key hk _) fun w3 h3 hc=>?_;cases hkk:A8A e.key
  ·exact⟨rfl,hc.below⟩
  refine hc.c 0 rfl rfl ?_;by_cases h1:1<=e.vs.length
  ·refine dt (by show (1:Int)<=(e.vs.length:Int);omega) ?_;refine hc.c 0 rfl rfl ?_;refine⟨B7 ?_,hc.below⟩;rw [zy h1,Bool.true_and,Bool.true_and];by_cases h12:e.vs.length<=12
   ·rw [zy h12];exact zy (by omega)
   ·rw [zz h12];exact zz (by omega)
  ·refine df (by show ¬ (1:Int)<=(e.vs.length:Int);omega) ?_;refine⟨B7 ?_,hc.below⟩;rw [zz h1];rfl
theorem C3j (a b:Ent) (A B:Option Addr) (cap cap':Nat) (S:Nat->Prop) (w:World) (hR:Row S w A a.vs.length cap (a.vs.map K2).flatten) (hR':Row S w B b.vs.length cap' (b.vs.map K2).flatten):
  Calls Tryz.prog 61 #[.agg #[.string a.key,.slice A a.vs.length cap],.agg #[.string b.key,.slice B b.vs.length cap']] w (C8 (.bool (eqE a b)) w):=by
 refine vE Tryz.func61 ?_;intro g1 w1 h1;have hc:=((Ctx.start w no (fun _ h=>h.elim)).loc h1).1;refine hc.n fun g2 w2 h2 hc=>?_;have hM:=D4 hR;refine hc.c 1 rfl rfl ?_;refine hc.c 0 rfl rfl ?_;unfold eqE;cases hk:D3 a.key b.key
 ·refine B0 (by show (!D3 a.key b.key)=true;rw [hk];rfl) ?_;exact⟨rfl,hc.below⟩
 refine C3X (by show (!D3 a.key b.key)=false;rw [hk];rfl) ?_;refine hc.c 1 rfl rfl ?_;refine hc.c 0 rfl rfl ?_;by_cases hl:a.vs.length=b.vs.length;rotate_left
 ·refine B0 (by show ((a.vs.length:Int) != (b.vs.length:Int))=true;rw [bne_iff_ne];omega) ?_;rw [A4x _ _ _ hl];exact⟨rfl,hc.below⟩
 refine C3X (by show ((a.vs.length:Int) != (b.vs.length:Int))=false;rw [hl];simp) ?_;refine⟨Nat,fun i=>[(2,.pointer (some ⟨g1,0,none⟩)),(3,.pointer (some ⟨g2,0,none⟩)),(5,.int .i64 i)],
  fun i w'=>i<=a.vs.length/\U8 B2V (a.vs.drop i) (b.vs.drop i)=U8 B2V a.vs b.vs/\Ctx no w no w' [(g2,99,[.string b.key,.slice B b.vs.length cap']),(g1,99,[.string a.key,.slice A a.vs.length cap])],fun i _=>a.vs.length-i,0,
  ⟨rfl,rfl,rfl,trivial⟩,⟨zb _,rfl,hc⟩,?_⟩
 rintro i w' u ⟨hi,he,hc⟩;refine hc.c 1 rfl rfl ?_;by_cases hlt:i<a.vs.length
 ·refine dt (by omega) ?_;obtain⟨ad,rfl,hcell⟩:=RowV.elem (hR.below hc.below) i hlt;obtain⟨bd,rfl,hcell'⟩:=RowV.elem (hR'.below hc.below) i (by omega);rw [List.drop_eq_getElem_cons hlt,List.drop_eq_getElem_cons (show i<b.vs.length by omega),U8] at he;generalize a.vs[i]=x at*;generalize b.vs[i]'(by omega)=y at*;refine vD (.Q [0,1,2,3,4,5,6,7,8,9,10] .fin) (Keeps (fun b=>b<w'.heap.size) w') (Keeps.start _ _) ?_;refine⟨_,fun z hz=>hz.look (hc.cell 1 rfl _ rfl),?_⟩;refine⟨⟨by omega,by omega⟩,?_⟩;refine⟨K2 x,rfl,fun z hz=>hz.looks _ _ hcell,?_⟩;refine⟨_,fun z hz=>hz.look (hc.cell 0 rfl _ rfl),?_⟩;refine⟨⟨by omega,by omega⟩,?_⟩;refine⟨K2 y,rfl,fun z hz=>hz.looks _ _ hcell',?_⟩;refine⟨_,fun w=>A1x B4P (A7J 9998 · x y) _ _ w,?_⟩;have hc:=hc.drew;cases hv:B2V x y
  ·rw [hv] at he;refine⟨?_,hc.below⟩;rw [<-he];rfl
  ·rw [hv] at he;refine⟨i+1,⟨rfl,rfl,y5 _ (C3 (by omega)),trivial⟩,⟨hlt,he,hc⟩,by show a.vs.length-(i+1)<a.vs.length-i;omega⟩
 ·refine df (by omega) ?_;rw [zq (by omega),zq (by omega),U8] at he;rw [<-he];exact⟨rfl,hc.below⟩
def B2g (e sz n:Nat) (xs:List Value) (w:World) (en:Ending) (w':World):Prop:=∃ A cap,en=.returned (.slice A n cap)/\Below w.heap.size w w'/\w'.ownsRow w.heap.size e sz (.slice A n cap) n xs
theorem Row.cut {S:Nat->Prop} {w:World} {A:Option Addr} {n cap k:Nat} {css:List (List Value)} (hR:Row S w A n cap css.flatten) (hF:Flat k css) (hk:0<k) (hn:css.length=n) (hA:A=none):n=0/\css.flatten=[]:=by
 subst hA;rcases Nat.eq_zero_or_pos n with h | h
 ·refine⟨h,zn ?_⟩;rw [hF.len,hn,h,Nat.zero_mul]
 ·obtain⟨ad,e,_⟩:=Row.elemF hR hk hF 0 (by omega);cases e
theorem A7L:(Tryz.prog.info? 147).map (fun i=>(i.zero,i.size,i.bytes))=some (some (.agg #[.int .i64 0,.bool false,.string ⟨#[]⟩]),3,32):=by kernel_rfl
theorem B5B (a:Option Addr) (n c:Nat) (ox oy:Operand) (w:World):(do eqGuard .eql 97 ox oy (.slice a n c) (.slice none 0 0);Go.binOp .eql 97 (.slice a n c) (.slice none 0 0):Sem Value).run Tryz.prog w=.ok (.bool a.isNone) w:=by have h:=Lib.run_eql_slice_nil (P:=Tryz.prog) w 97 147 a n c 0 0 Tryz.underlying97;simp only [eqGuard];simpa using h
theorem J6 (A:Option Addr) (n cap:Nat) (css:List (List Value)) (hF:Flat 3 css) (hn:css.length=n) (hb:n<=1000000) (S:Nat->Prop) (w:World) (hR:Row S w A n cap css.flatten):
  Calls Tryz.prog 109 #[.slice A n cap] w (B2g 147 3 n css.flatten w):=by
 refine vE Tryz.func109 ?_;refine⟨_,fun w=>B5B A n cap _ _ w,?_⟩;cases A with
 | none=>
  obtain⟨h0,h1⟩:=Row.cut hR hF (by decide) hn rfl;subst h0;rw [h1];exact⟨none,0,rfl,Below.refl _ _,World.ownsRow_nil _ _ _ _⟩
 | some ad=>
  intro g w1 h1;have hc:=Ctx.start w no (fun _ h=>h.elim);obtain⟨hc,hf,ho⟩:=Own.made hc h1 3 0 rfl (zb _);refine Z0 Tryz.underlying97 A7L rfl (by decide) hc ho (hR.below h1.below) (by rw [hF.len,hn]) hF.ones (by omega) (by decide) ?_;intro A' cap' w2 hc hf ho _;rw [zm] at ho ⊢;rw [List.nil_append] at ho;exact⟨A',cap',rfl,hc.below,ho.row⟩
theorem A6L {S0 S:Nat->Prop} {w0 w:World} {l:List LB} (hc:Ctx S0 w0 S w l) (css:List (List Value)) (hF:Flat 3 css) {A:Option Addr} {cap:Nat} (ho:Own S w0.heap.size w l 147 3 A css.length cap css.flatten) (i:Nat) (hi:i<css.length) (j:Int) (hj:j=i+1):
  Calls Tryz.prog 321 #[.slice A css.length cap,.int .i64 i,.int .i64 j] w (fun en w'=>∃ A',en=.returned (.slice A' (css.length-1) cap)/\Ctx S0 w0 S w' l/\Fut S w S w'/\Own S w0.heap.size w' l 147 3 A' (css.length-1) cap (css.take i++css.drop (i+1)).flatten):=by
 cases hA:A with
 | none=>
  obtain⟨h0,_⟩:=ho.none' hA;omega
 | some a=>
 obtain⟨g,cur,e1,hc,hcl,hct,hnc,hcm⟩:=ho.opened hc hA;rw [hA] at e1;cases e1;have hM:cap<=9223372036854775807:=zo hcm (by decide);generalize hn:css.length=n at*;refine vE Tryz.func321 ?_;refine⟨⟨by omega,by omega,by omega,by omega⟩,?_⟩;refine C3X (by show ((i:Int)==j)=false;rw [y4];omega) ?_;refine vD (.Q [0,1,2,3,4,5] (.n 6 (.q 7 .fin) .stop)) (fun _=>True) trivial ?_;have hc:=hc.drew;refine⟨⟨by omega,by omega,by omega,by omega⟩,?_⟩;refine⟨⟨by omega,by omega,by omega,by omega⟩,?_⟩;refine⟨?_,trivial⟩;have hjn:j.toNat=i+1:=by omega
 have hyl:((css.drop (i+1)).flatten).length=(n-(i+1))*3:=by rw [(hF.drop _).len,zg,hn]
 have hcd:(cur.drop ((i+1)*3)).take ((css.drop (i+1)).flatten).length=(css.drop (i+1)).flatten:=by rw [hF.flat_drop,<-hct,List.drop_take,zf,zg,hcl];congr 1;omega
 have hcells:∀ ad:Addr,ad=(if (cap:Int)=j then (⟨g,0,none⟩:Addr) else (⟨g,0,none⟩:Addr).add (j.toNat*3))->Go.Vc.cellsAt w.drew ad (css.drop (i+1)).flatten 0:=by
  intro ad had;by_cases hcj:(cap:Int)=j
  ·have:(css.drop (i+1)).flatten=[]:=zn (by rw [hyl];omega);rw [this];trivial
  ·rw [y7 hcj,Addr.add_lit,zm,hjn] at had;rw [had];exact hc.cellsAt 0 rfl _ _ hcd
 refine A7A Tryz.underlying97 A7L hc hcl (n:=i) (m:=n-(i+1)) (c:=((cap:Int)-j).toNat) (by omega) hyl (hcells _ rfl) (hF.drop _).ones ?_ ?_ ?_
 ·have e0:(if (cap:Int)=0 then some (⟨g,0,none⟩:Addr) else (some (⟨g,0,none⟩:Addr)).map (·.add ((0:Int).toNat*3)))=some ⟨g,0,none⟩:=by split<;>rfl
  show Value.slice (if (cap:Int)=0 then some (⟨g,0,none⟩:Addr) else (some (⟨g,0,none⟩:Addr)).map (·.add ((0:Int).toNat*3))) ((i:Int)-0).toNat ((cap:Int)-0).toNat=_;rw [e0];congr 1<;>omega
 ·show Value.slice (if (cap:Int)=j then some (⟨g,0,none⟩:Addr) else (some (⟨g,0,none⟩:Addr)).map (·.add (j.toNat*3))) ((n:Int)-j).toNat ((cap:Int)-j).toNat=_;have e0:(if (cap:Int)=j then some (⟨g,0,none⟩:Addr) else (some (⟨g,0,none⟩:Addr)).map (·.add (j.toNat*3)))=some (if (cap:Int)=j then (⟨g,0,none⟩:Addr) else (⟨g,0,none⟩:Addr).add (j.toNat*3)):=by split<;>rfl
  rw [e0];congr 1;omega
 intro w2 hc hf2;refine⟨trivial,?_⟩;have hn1:i+(n-(i+1))=n-1:=by omega
 rw [hn1];have hcur2:(cur.take (i*3)++(css.drop (i+1)).flatten++cur.drop ((i+(n-(i+1)))*3)).length=cap*3:=by rw [z6,z6,zf,zg,hyl,hcl];omega
 have htk2:(cur.take (i*3)++(css.drop (i+1)).flatten++cur.drop ((i+(n-(i+1)))*3)).take ((n-1)*3)=(css.take i++css.drop (i+1)).flatten:=by
  have e1:(cur.take (i*3)++(css.drop (i+1)).flatten).length=(n-1)*3:=by rw [z6,zf,hyl,hcl];omega
  rw [List.take_left' e1,zr,hF.flat_take,<-hct,List.take_take];congr 2;omega
 generalize cur.take (i*3)++(css.drop (i+1)).flatten++cur.drop ((i+(n-(i+1)))*3)=cur2 at*;refine⟨⟨by omega,by omega,by omega,by omega⟩,?_⟩;refine A1n Tryz.underlying97 (z:=.agg #[.int .i64 0,.bool false,.string ⟨#[]⟩]) (fun w=>by kernel_rfl) (a:=⟨g,(n-1)*3,none⟩) (n:=1) (c:=cap-(n-1)) (by decide) ?_ (zs:=[.int .i64 0,.bool false,.string ⟨#[]⟩]) (by kernel_rfl) (hc.may 0 rfl ((n-1)*3) [.int .i64 0,.bool false,.string ⟨#[]⟩] (by rw [hcur2];show (n-1)*3+3<=_;omega) rfl) ?_
 ·show Value.slice (if (cap:Int)=((n-1:Nat):Int) then some (⟨g,0,none⟩:Addr) else (some (⟨g,0,none⟩:Addr)).map (·.add (((n-1:Nat):Int).toNat*3))) ((n:Int)-((n-1:Nat):Int)).toNat ((cap:Int)-((n-1:Nat):Int)).toNat=_;rw [y7 (by omega),Option.map_some,Addr.add_lit,zm,zh];congr 1<;>omega
 intro w3 h3;have hC:=hc.set 0 rfl h3;have hc:=hC.1;have hlen3:(C0 cur2 ((n-1)*3) [.int .i64 0,.bool false,.string ⟨#[]⟩]).length=cap*3:=by rw [putAt_len,hcur2]
 obtain⟨hc,ho⟩:=Ctx.closed hc 3 (n-1) cap (by omega) hcm hlen3;refine⟨some ⟨g,0,none⟩,rfl,hc,hf2.trans hC.2,?_⟩;rw [<-htk2];have e3:(C0 cur2 ((n-1)*3) [.int .i64 0,.bool false,.string ⟨#[]⟩]).take ((n-1)*3)=cur2.take ((n-1)*3):=by rw [E5 _ _ _ (by rw [hcur2];show (n-1)*3+3<=_;omega),zv,List.take_left' (by rw [zf,hcur2];omega)]
 rw [<-e3];exact ho
theorem A03:(Tryz.prog.info? 99).map (fun i=>(i.zero,i.size,i.bytes))=some (some (.agg #[.string ⟨#[]⟩,.slice none 0 0]),2,40):=by kernel_rfl
theorem B5C (a:Option Addr) (n c:Nat) (ox oy:Operand) (w:World):(do eqGuard .eql 37 ox oy (.slice a n c) (.slice none 0 0);Go.binOp .eql 37 (.slice a n c) (.slice none 0 0):Sem Value).run Tryz.prog w=.ok (.bool a.isNone) w:=by have h:=Lib.run_eql_slice_nil (P:=Tryz.prog) w 37 99 a n c 0 0 Tryz.underlying37;simp only [eqGuard];simpa using h
theorem C4J (A:Option Addr) (n cap:Nat) (css:List (List Value)) (hF:Flat 2 css) (hn:css.length=n) (hb:n<=1000000) (S:Nat->Prop) (w:World) (hR:Row S w A n cap css.flatten):
  Calls Tryz.prog 107 #[.slice A n cap] w (B2g 99 2 n css.flatten w):=by
 refine vE Tryz.func107 ?_;refine⟨_,fun w=>B5C A n cap _ _ w,?_⟩;cases A with
 | none=>
  obtain⟨h0,h1⟩:=Row.cut hR hF (by decide) hn rfl;subst h0;rw [h1];exact⟨none,0,rfl,Below.refl _ _,World.ownsRow_nil _ _ _ _⟩
 | some ad=>
  intro g w1 h1;have hc:=Ctx.start w no (fun _ h=>h.elim);obtain⟨hc,hf,ho⟩:=Own.made hc h1 2 0 rfl (zb _);refine Z0 Tryz.underlying37 A03 rfl (by decide) hc ho (hR.below h1.below) (by rw [hF.len,hn]) hF.ones (by omega) (by decide) ?_;intro A' cap' w2 hc hf ho _;rw [zm] at ho ⊢;rw [List.nil_append] at ho;exact⟨A',cap',rfl,hc.below,ho.row⟩
theorem A6M {S0 S:Nat->Prop} {w0 w:World} {l:List LB} (hc:Ctx S0 w0 S w l) (css:List (List Value)) (hF:Flat 2 css) {A:Option Addr} {cap:Nat} (ho:Own S w0.heap.size w l 99 2 A css.length cap css.flatten) (i:Nat) (hi:i<css.length) (j:Int) (hj:j=i+1):
  Calls Tryz.prog 292 #[.slice A css.length cap,.int .i64 i,.int .i64 j] w (fun en w'=>∃ A',en=.returned (.slice A' (css.length-1) cap)/\Ctx S0 w0 S w' l/\Fut S w S w'/\Own S w0.heap.size w' l 99 2 A' (css.length-1) cap (css.take i++css.drop (i+1)).flatten):=by
 cases hA:A with
 | none=>
  obtain⟨h0,_⟩:=ho.none' hA;omega
 | some a=>
 obtain⟨g,cur,e1,hc,hcl,hct,hnc,hcm⟩:=ho.opened hc hA;rw [hA] at e1;cases e1;have hM:cap<=9223372036854775807:=zo hcm (by decide);generalize hn:css.length=n at*;refine vE Tryz.func292 ?_;refine⟨⟨by omega,by omega,by omega,by omega⟩,?_⟩;refine C3X (by show ((i:Int)==j)=false;rw [y4];omega) ?_;refine vD (.Q [0,1,2,3,4,5] (.n 6 (.q 7 .fin) .stop)) (fun _=>True) trivial ?_;have hc:=hc.drew;refine⟨⟨by omega,by omega,by omega,by omega⟩,?_⟩;refine⟨⟨by omega,by omega,by omega,by omega⟩,?_⟩;refine⟨?_,trivial⟩;have hjn:j.toNat=i+1:=by omega
 have hyl:((css.drop (i+1)).flatten).length=(n-(i+1))*2:=by rw [(hF.drop _).len,zg,hn]
 have hcd:(cur.drop ((i+1)*2)).take ((css.drop (i+1)).flatten).length=(css.drop (i+1)).flatten:=by rw [hF.flat_drop,<-hct,List.drop_take,zf,zg,hcl];congr 1;omega
 have hcells:∀ ad:Addr,ad=(if (cap:Int)=j then (⟨g,0,none⟩:Addr) else (⟨g,0,none⟩:Addr).add (j.toNat*2))->Go.Vc.cellsAt w.drew ad (css.drop (i+1)).flatten 0:=by
  intro ad had;by_cases hcj:(cap:Int)=j
  ·have:(css.drop (i+1)).flatten=[]:=zn (by rw [hyl];omega);rw [this];trivial
  ·rw [y7 hcj,Addr.add_lit,zm,hjn] at had;rw [had];exact hc.cellsAt 0 rfl _ _ hcd
 refine A7A Tryz.underlying37 A03 hc hcl (n:=i) (m:=n-(i+1)) (c:=((cap:Int)-j).toNat) (by omega) hyl (hcells _ rfl) (hF.drop _).ones ?_ ?_ ?_
 ·have e0:(if (cap:Int)=0 then some (⟨g,0,none⟩:Addr) else (some (⟨g,0,none⟩:Addr)).map (·.add ((0:Int).toNat*2)))=some ⟨g,0,none⟩:=by split<;>rfl
  show Value.slice (if (cap:Int)=0 then some (⟨g,0,none⟩:Addr) else (some (⟨g,0,none⟩:Addr)).map (·.add ((0:Int).toNat*2))) ((i:Int)-0).toNat ((cap:Int)-0).toNat=_;rw [e0];congr 1<;>omega
 ·show Value.slice (if (cap:Int)=j then some (⟨g,0,none⟩:Addr) else (some (⟨g,0,none⟩:Addr)).map (·.add (j.toNat*2))) ((n:Int)-j).toNat ((cap:Int)-j).toNat=_;have e0:(if (cap:Int)=j then some (⟨g,0,none⟩:Addr) else (some (⟨g,0,none⟩:Addr)).map (·.add (j.toNat*2)))=some (if (cap:Int)=j then (⟨g,0,none⟩:Addr) else (⟨g,0,none⟩:Addr).add (j.toNat*2)):=by split<;>rfl
  rw [e0];congr 1;omega
 intro w2 hc hf2;refine⟨trivial,?_⟩;have hn1:i+(n-(i+1))=n-1:=by omega
 rw [hn1];have hcur2:(cur.take (i*2)++(css.drop (i+1)).flatten++cur.drop ((i+(n-(i+1)))*2)).length=cap*2:=by rw [z6,z6,zf,zg,hyl,hcl];omega
 have htk2:(cur.take (i*2)++(css.drop (i+1)).flatten++cur.drop ((i+(n-(i+1)))*2)).take ((n-1)*2)=(css.take i++css.drop (i+1)).flatten:=by
  have e1:(cur.take (i*2)++(css.drop (i+1)).flatten).length=(n-1)*2:=by rw [z6,zf,hyl,hcl];omega
  rw [List.take_left' e1,zr,hF.flat_take,<-hct,List.take_take];congr 2;omega
 generalize cur.take (i*2)++(css.drop (i+1)).flatten++cur.drop ((i+(n-(i+1)))*2)=cur2 at*;refine⟨⟨by omega,by omega,by omega,by omega⟩,?_⟩;refine A1n Tryz.underlying37 (z:=.agg #[.string ⟨#[]⟩,.slice none 0 0]) (fun w=>by kernel_rfl) (a:=⟨g,(n-1)*2,none⟩) (n:=1) (c:=cap-(n-1)) (by decide) ?_ (zs:=[.string ⟨#[]⟩,.slice none 0 0]) (by kernel_rfl) (hc.may 0 rfl ((n-1)*2) [.string ⟨#[]⟩,.slice none 0 0] (by rw [hcur2];show (n-1)*2+2<=_;omega) rfl) ?_
 ·show Value.slice (if (cap:Int)=((n-1:Nat):Int) then some (⟨g,0,none⟩:Addr) else (some (⟨g,0,none⟩:Addr)).map (·.add (((n-1:Nat):Int).toNat*2))) ((n:Int)-((n-1:Nat):Int)).toNat ((cap:Int)-((n-1:Nat):Int)).toNat=_;rw [y7 (by omega),Option.map_some,Addr.add_lit,zm,zh];congr 1<;>omega
 intro w3 h3;have hC:=hc.set 0 rfl h3;have hc:=hC.1;have hlen3:(C0 cur2 ((n-1)*2) [.string ⟨#[]⟩,.slice none 0 0]).length=cap*2:=by rw [putAt_len,hcur2]
 obtain⟨hc,ho⟩:=Ctx.closed hc 2 (n-1) cap (by omega) hcm hlen3;refine⟨some ⟨g,0,none⟩,rfl,hc,hf2.trans hC.2,?_⟩;rw [<-htk2];have e3:(C0 cur2 ((n-1)*2) [.string ⟨#[]⟩,.slice none 0 0]).take ((n-1)*2)=cur2.take ((n-1)*2):=by rw [E5 _ _ _ (by rw [hcur2];show (n-1)*2+2<=_;omega),zv,List.take_left' (by rw [zf,hcur2];omega)]
 rw [<-e3];exact ho
theorem A1z:(Tryz.prog.info? 101).map (fun i=>(i.zero,i.size,i.bytes))=some (some (.agg #[.int .i64 0,.int .i64 0,.int .i64 0]),3,24):=by kernel_rfl
theorem B5D (a:Option Addr) (n c:Nat) (ox oy:Operand) (w:World):(do eqGuard .eql 38 ox oy (.slice a n c) (.slice none 0 0);Go.binOp .eql 38 (.slice a n c) (.slice none 0 0):Sem Value).run Tryz.prog w=.ok (.bool a.isNone) w:=by have h:=Lib.run_eql_slice_nil (P:=Tryz.prog) w 38 101 a n c 0 0 Tryz.underlying38;simp only [eqGuard];simpa using h
theorem Q1 (A:Option Addr) (n cap:Nat) (css:List (List Value)) (hF:Flat 3 css) (hn:css.length=n) (hb:n<=1000000) (S:Nat->Prop) (w:World) (hR:Row S w A n cap css.flatten):
  Calls Tryz.prog 108 #[.slice A n cap] w (B2g 101 3 n css.flatten w):=by
 refine vE Tryz.func108 ?_;refine⟨_,fun w=>B5D A n cap _ _ w,?_⟩;cases A with
 | none=>
  obtain⟨h0,h1⟩:=Row.cut hR hF (by decide) hn rfl;subst h0;rw [h1];exact⟨none,0,rfl,Below.refl _ _,World.ownsRow_nil _ _ _ _⟩
 | some ad=>
  intro g w1 h1;have hc:=Ctx.start w no (fun _ h=>h.elim);obtain⟨hc,hf,ho⟩:=Own.made hc h1 3 0 rfl (zb _);refine Z0 Tryz.underlying38 A1z rfl (by decide) hc ho (hR.below h1.below) (by rw [hF.len,hn]) hF.ones (by omega) (by decide) ?_;intro A' cap' w2 hc hf ho _;rw [zm] at ho ⊢;rw [List.nil_append] at ho;exact⟨A',cap',rfl,hc.below,ho.row⟩
def B8A (A:Option Addr) (cap:Nat) (e:Ent) (q:Ent × Bool) (w:World) (en:Ending) (w':World):Prop:=
 if q.2 then ∃ A' cap',en=.returned (.tuple #[.agg #[.string q.1.key,.slice A' q.1.vs.length cap'],.bool true])/\Below w.heap.size w w'/\w'.ownsRow w.heap.size 147 3 (.slice A' q.1.vs.length cap') q.1.vs.length (q.1.vs.map K2).flatten
 else en=.returned (.tuple #[.agg #[.string e.key,.slice A e.vs.length cap],.bool false])/\Below w.heap.size w w'
theorem B6v (l:List Ver) (v:Ver):(l.map K2).flatten++K2 v=((l++[v]).map K2).flatten:=by simp
theorem B88 (l:List Ver) (i:Nat):((l.map K2).take i++(l.map K2).drop (i+1)).flatten=((l.take i++l.drop (i+1)).map K2).flatten:=by simp
theorem A10 (e:Ent) (v:Ver) (A:Option Addr) (cap:Nat) (hb:e.vs.length<=1000000) (S:Nat->Prop) (w:World) (hR:Row S w A e.vs.length cap (e.vs.map K2).flatten):
  Calls Tryz.prog 271 #[.agg #[.string e.key,.slice A e.vs.length cap],.agg (K2 v).toArray] w (B8A A cap e (A6G e v) w):=by
 refine vE Tryz.func271 ?_;intro g1 w1 h1;have hc:=((Ctx.start w no (fun _ h=>h.elim)).loc h1).1;refine hc.n fun g2 w2 h2 hc=>?_;refine hc.n fun g3 w3 h3 hc=>?_;refine hc.a 2 rfl rfl ?_;refine hc.q (A95 e A cap S w3 (hR.below hc.below)) fun w4 h4 hc=>?_;have hM:=D4 hR;refine hc.n fun g5 w5 h5 hc=>?_;refine⟨hc.may 0 rfl 0 _ (zc 3) rfl,?_⟩;intro w6 h6;have hc:=(hc.set 0 rfl h6).1;refine hc.c 3 rfl rfl ?_;have bad:((e.vs.length≠0/\v.ver<=(G5 e.vs).ver)\/12<=e.vs.length)->A6G e v=(e,false):=fun h=>by rw [A6G,y6 h]
 have full:∀ h:e.vs.length≠0->¬ v.ver<=(G5 e.vs).ver,12<=e.vs.length\/A6G e v=(⟨e.key,e.vs++[v]⟩,true):=fun h=>by
  rcases zl e.vs.length 12 with h12 | h12
  ·right;rw [A6G,y7];rintro (h' | h')
   ·exact h h'.1 h'.2
   ·omega
  ·exact .inl h12
 rcases Nat.eq_zero_or_pos e.vs.length with h0 | h0
 all_goals first
  | (
    refine df (show ¬ (0:Int)<(e.vs.length:Int) by omega) ?_;have full:=full (fun h=>absurd h0 h))
  | (
    refine dt (show (0:Int)<(e.vs.length:Int) by omega) ?_;have hn:A4y e=(G5 e.vs,!(G5 e.vs).gone):=by rw [A4y,y7 (by omega)]
    rw [hn] at hc;refine hc.c 2 rfl rfl ?_;have hlv:w6.cell? ⟨g5,0,none⟩=some (.int .i64 (G5 e.vs).ver):=hc.cell 0 rfl _ rfl;refine⟨_,hlv,?_⟩;rcases Int.lt_or_le (G5 e.vs).ver v.ver with hl | hl;rotate_left
    ·refine dt hl ?_;refine hc.a 3 rfl rfl ?_;refine hc.s 1 rfl fun wS hS hc=>?_;refine hc.a 1 rfl rfl ?_;rw [bad (.inl ⟨by omega,hl⟩)];exact⟨rfl,hc.below⟩
    refine df (show ¬ v.ver<=(G5 e.vs).ver by omega) ?_;have full:=full (fun _=>by omega))
 all_goals refine hc.c 3 rfl rfl ?_
 all_goals rcases zl e.vs.length 12 with h12 | h12
 all_goals first
  | (
    refine dt (show (12:Int)<=(e.vs.length:Int) by omega) ?_;refine hc.a 3 rfl rfl ?_;refine hc.s 1 rfl fun wS hS hc=>?_;refine hc.a 1 rfl rfl ?_;rw [bad (.inr h12)];exact⟨rfl,hc.below⟩)
  | (
    refine df (show ¬ (12:Int)<=(e.vs.length:Int) by omega) ?_;have full:=full.resolve_left (by omega);rw [full];refine vD (.Q [0,1,2,3,5] (.n 4 (.n 6 (.n 7 (.q 8 (.n 9 (.q 10 .fin) .stop)) .stop) .stop) (.n 6 (.n 4 (.n 7 (.q 8 (.n 9 (.q 10 .fin) .stop)) .stop) .stop) .stop))) (fun x=>Blk x g1 99 [.string e.key,.slice A e.vs.length cap]/\Blk x g2 147 (K2 v)) ⟨hc.blk 3 rfl,hc.blk 2 rfl⟩ ?_;have hc:=hc.drew;refine⟨_,fun x hx=>hx.1.cell 0,?_⟩;refine⟨_,fun x hx=>hx.1.cell 1,?_⟩;refine⟨K2 v,rfl,fun x hx=>⟨hx.2.cell 0,hx.2.cell 1,hx.2.cell 2,trivial⟩,?_⟩;refine⟨?_,?_,trivial⟩
    ·refine⟨(J6 A e.vs.length cap (e.vs.map K2) (I7 _) (by rw [zj]) hb S _ (hR.below hc.below)).mono fun en w7 hq=>?_⟩;obtain⟨A1,cap1,e1,h7,ho⟩:=hq;obtain⟨hc,_,ho⟩:=hc.fresh h7 ho;refine⟨_,e1,⟨hc.blk 3 rfl,hc.blk 2 rfl⟩,?_⟩;refine⟨fun g8 w8 h8=>?_,trivial⟩;have ho:=ho.loc h8;have hc:=(hc.loc h8).1;refine⟨⟨hc.blk 4 rfl,hc.blk 3 rfl⟩,?_⟩;refine⟨R0 Tryz.underlying97 A7L rfl (by decide) hc ho (ys:=K2 v) rfl (hc.cells 0 rfl) rfl (by omega) (by decide) ?_,trivial⟩;intro A2 cap2 w9 hc _ ho _;refine⟨⟨hc.blk 4 rfl,hc.blk 3 rfl⟩,?_⟩;refine⟨⟨hc.may 2 rfl 0 _ (zc 2) rfl,?_⟩,trivial⟩;intro w10 h10;have ho:=ho.set hc 2 rfl h10;have hc:=(hc.set 2 rfl h10).1;refine⟨⟨hc.blk 4 rfl,hc.blk 3 rfl⟩,?_⟩;refine hc.a 2 rfl rfl ?_;have ho:=ho.row;rw [B6v] at ho;have hlen:(e.vs++[v]).length=e.vs.length+1:=by simp
     refine⟨A2,cap2,?_,hc.below,?_⟩
     ·simp only [hlen];rfl
     ·simp only [hlen];exact ho
    ·refine hc.n fun g8 w8 h8 hc=>?_;refine⟨⟨hc.blk 4 rfl,hc.blk 3 rfl⟩,?_⟩;refine⟨⟨(J6 A e.vs.length cap (e.vs.map K2) (I7 _) (by rw [zj]) hb S _ (hR.below hc.below)).mono fun en w7 hq=>?_⟩,trivial⟩;obtain⟨A1,cap1,e1,h7,ho⟩:=hq;obtain⟨hc,_,ho⟩:=hc.fresh h7 ho;refine⟨_,e1,⟨hc.blk 4 rfl,hc.blk 3 rfl⟩,?_⟩;refine⟨R0 Tryz.underlying97 A7L rfl (by decide) hc ho (ys:=K2 v) rfl (hc.cells 0 rfl) rfl (by omega) (by decide) ?_,trivial⟩;intro A2 cap2 w9 hc _ ho _;refine⟨⟨hc.blk 4 rfl,hc.blk 3 rfl⟩,?_⟩;refine⟨⟨hc.may 2 rfl 0 _ (zc 2) rfl,?_⟩,trivial⟩;intro w10 h10;have ho:=ho.set hc 2 rfl h10;have hc:=(hc.set 2 rfl h10).1;refine⟨⟨hc.blk 4 rfl,hc.blk 3 rfl⟩,?_⟩;refine hc.a 2 rfl rfl ?_;have ho:=ho.row;rw [B6v] at ho;have hlen:(e.vs++[v]).length=e.vs.length+1:=by simp
     refine⟨A2,cap2,?_,hc.below,?_⟩
     ·simp only [hlen];rfl
     ·simp only [hlen];exact ho)
theorem A97 (e:Ent) (n:Int) (A:Option Addr) (cap:Nat) (hb:e.vs.length<=1000000) (S:Nat->Prop) (w:World) (hR:Row S w A e.vs.length cap (e.vs.map K2).flatten):
  Calls Tryz.prog 291 #[.agg #[.string e.key,.slice A e.vs.length cap],.int .i64 n] w (B8A A cap e (A9u e n) w):=by
 refine vE Tryz.func291 ?_;intro g1 w1 h1;have hc:=((Ctx.start w no (fun _ h=>h.elim)).loc h1).1;refine hc.n fun g2 w2 h2 hc=>?_;refine hc.a 1 rfl rfl ?_;refine hc.q (A96 e n A cap S w2 (hR.below hc.below)) fun w3 h3 hc=>?_;have hM:=D4 hR;unfold A9u;cases hi:A1q e.vs n with
 | none=>
  refine hc.a 1 rfl rfl ?_;refine hc.s 0 rfl fun wS hS hc=>?_;refine hc.a 0 rfl rfl ?_;exact⟨rfl,hc.below⟩
 | some i=>
  obtain⟨hlt,_⟩:=A6I hi;refine vD (.Q [0,1,2,3,5,6,7] (.n 4 (.n 8 (.q 9 (.n 10 (.q 11 .fin) .stop)) .stop) .stop)) (fun x=>Blk x g1 99 [.string e.key,.slice A e.vs.length cap]) (hc.blk 1 rfl) ?_;have hc:=hc.drew;refine⟨_,fun x hx=>hx.cell 0,?_⟩;refine⟨_,fun x hx=>hx.cell 1,?_⟩;refine⟨⟨(J6 A e.vs.length cap (e.vs.map K2) (I7 _) (by rw [zj]) hb S _ (hR.below hc.below)).mono fun en w7 hq=>?_⟩,trivial⟩;obtain⟨A1,cap1,e1,h7,ho⟩:=hq;obtain⟨hc,_,ho⟩:=hc.fresh h7 ho;refine⟨_,e1,hc.blk 1 rfl,?_⟩;refine⟨?_,trivial⟩;have hml:(e.vs.map K2).length=e.vs.length:=zj ..;have hd:=A6L hc (e.vs.map K2) (I7 _) (A:=A1) (cap:=cap1) (by rw [hml];exact ho) i (by rw [hml];exact hlt) (IntKind.i64.wrap ((i:Int)+1)) (by rw [E0 _ _ (by omega) (by omega)]);rw [hml] at hd;refine⟨hd.mono fun en w8 hq=>?_⟩;obtain⟨A2,e2,hc,_,ho⟩:=hq;refine⟨_,e2,hc.blk 1 rfl,?_⟩;refine⟨⟨hc.may 0 rfl 0 _ (zc 2) rfl,?_⟩,trivial⟩;intro w10 h10;have ho:=ho.set hc 0 rfl h10;have hc:=(hc.set 0 rfl h10).1;refine⟨hc.blk 1 rfl,?_⟩;refine hc.a 0 rfl rfl ?_;have ho:=ho.row;rw [B88] at ho;have hlen:(e.vs.take i++e.vs.drop (i+1)).length=e.vs.length-1:=by rw [z6,zf,zg];omega
  refine⟨A2,cap1,?_,hc.below,?_⟩
  ·simp only [hlen];rfl
  ·simp only [hlen];exact ho
theorem F9 (l:List Mem):Flat 3 (l.map F7):=Flat.map F7 (fun _=>⟨rfl,rfl⟩) l
theorem RowM.elem {S:Nat->Prop} {w:World} {A:Option Addr} {n cap:Nat} {l:List Mem} (hR:Row S w A n cap (l.map F7).flatten) (i:Nat) (hi:i<l.length):∃ ad,A=some ad/\Go.Vc.cellsAt w (ad.add (i*3)) (F7 l[i]) 0:=by obtain⟨ad,e,h⟩:=Row.elemF hR (by decide) (F9 l) i (by rw [zj];exact hi);rw [List.getElem_map] at h;exact⟨ad,e,h⟩
theorem RowE.elem {S:Nat->Prop} {w:World} {A:Option Addr} {n cap:Nat} {l:List Ent} {css:List (List Value)} (hR:Row S w A n cap css.flatten) (hE:RepEs S w l css) (i:Nat) (hi:i<l.length):
  ∃ ad A' cap',A=some ad/\Go.Vc.cellsAt w (ad.add (i*2)) [.string l[i].key,.slice A' l[i].vs.length cap'] 0/\Row S w A' l[i].vs.length cap' (l[i].vs.map K2).flatten:=by
 have hl:=hE.len;obtain⟨ad,e,h⟩:=Row.elemF hR (by decide) hE.flat i (by omega);obtain⟨A',cap',e1,h1⟩:=hE.get i hi (by omega);rw [e1] at h;exact⟨ad,A',cap',e,h,h1⟩
theorem RepS.shape {S:Nat->Prop} {w:World} {s:Stt} {cs:List Value} (h:RepS S w s cs):∃ A cap css B cap' l0 l1 l2 l3 l4,cs=[.int .i64 s.seq,.slice A s.l.length cap,.slice B s.ms.length cap',.int .i64 l0,.int .i64 l1,.int .i64 l2,.int .i64 l3,.int .i64 l4]/\
  s.lows=[l0,l1,l2,l3,l4]/\RepEs S w s.l css/\Row S w A s.l.length cap css.flatten/\Row S w B s.ms.length cap' (s.ms.map F7).flatten:=by
 obtain⟨A,cap,css,B,cap',e1,e2,e3,e4,e5⟩:=h
 match hl:s.lows,e2 with
 | [l0,l1,l2,l3,l4],_=>
  rw [hl] at e1;exact⟨A,cap,css,B,cap',l0,l1,l2,l3,l4,e1,rfl,e3,e4,e5⟩
theorem A98 (d:Nat) (w:World) (a0 a1 a2 a3 a4 b0 b1 b2 b3 b4:Int):(Op.equalIn (d+2) 39 (.agg #[.int .i64 a0,.int .i64 a1,.int .i64 a2,.int .i64 a3,.int .i64 a4]) (.agg #[.int .i64 b0,.int .i64 b1,.int .i64 b2,.int .i64 b3,.int .i64 b4])).run Tryz.prog w=.ok ([a0,a1,a2,a3,a4]==[b0,b1,b2,b3,b4]) w:=by
 have hs:∀ w,(Go.sizeOf 2).run Tryz.prog w=.ok 1 w:=fun w=>by kernel_rfl
 have step:∀ (x y:Int) w,(Op.equalIn (d+1) 2 (.int .i64 x) (.int .i64 y)).run Tryz.prog w=.ok (x==y) w:=fun x y w=>run_equalIn_int w d 2 .i64 .i64 x y Tryz.underlying2;rw [Op.equalIn];generalize Op.equalIn (d+1)=F at step ⊢;simp only [Sem.run_bind,run_underlying Tryz.underlying39,Result.andThen_ok,hs,Std.Legacy.Range.forIn_eq_forIn_range',Std.Legacy.Range.size];simp [List.range',part,isAgg,run_underlying Tryz.underlying2,step];by_cases h0:a0=b0;rotate_left
 ·simp [h0]
 by_cases h1:a1=b1;rotate_left
 ·simp [h0,h1]
 by_cases h2:a2=b2;rotate_left
 ·simp [h0,h1,h2]
 by_cases h3:a3=b3<;>by_cases h4:a4=b4<;>simp [h0,h1,h2,h3,h4]
theorem A99:Tryz.prog.eqGuardType Tryz.prog.depth 39=false:=by kernel_rfl
end Go.Proofs.YtefdfaeieekioaaGreatDoor
