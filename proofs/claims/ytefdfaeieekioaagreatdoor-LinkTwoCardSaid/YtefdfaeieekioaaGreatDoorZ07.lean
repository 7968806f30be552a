import Derived.Test.YtefdfaeieekioaaGreatDoorZ06
import Derived.Maps.OwnSet
import Derived.Maps.Views
import Derived.Maps.StringElems
import Derived.Maps.Range
import Derived.Maps.RangeWalk
import Derived.Laws.OwnMore
set_option maxRecDepth 100000
set_option maxHeartbeats 40000000
set_option linter.unusedVariables false
set_option linter.unusedSimpArgs false
section
namespace Go.Vc
open Go Go.RowKit
open Go.Proofs.YtefdfaeieekioaaGreatDoor (no)
structure Turn (G:Nat->Prop) (w w':World):Prop where
 os:w'.os=w.os
 tape:w'.tape=w.tape
 output:w'.output=w.output
 block:∀ x,x<w.heap.size->¬ G x->w'.heap[x]?=w.heap[x]?
theorem heap_lt {w w':World} {x:Nat} (h:w'.heap[x]?=w.heap[x]?) (hx:x<w.heap.size):x<w'.heap.size:=by rw [Array.getElem?_eq_getElem hx] at h;exact (Array.getElem?_eq_some_iff.1 h).1
theorem Turn.below {G:Nat->Prop} {w w':World} (h:Below w.heap.size w w'):Turn G w w':=⟨h.os,h.tape,h.output,fun x hx _=>h.block x hx⟩
theorem Turn.trans {G:Nat->Prop} {w w' w'':World} (h:Turn G w w') (k:Turn (fun x=>G x\/w.heap.size<=x) w' w''):Turn G w w'':=
 ⟨k.os.trans h.os,k.tape.trans h.tape,k.output.trans h.output,fun x hx hg=>by have h1:=h.block x hx hg;exact (k.block x (heap_lt h1 hx) (fun e=>e.elim hg (fun e=>by omega))).trans h1⟩
def Sep (n0:Nat) (R O:Kn):Kn:=fun S w=>∃ S1 Sa:Nat->Prop,(∀ x,S1 x->S x/\¬ Sa x)/\(∀ x,Sa x->S x/\n0<=x)/\R S1 w/\O Sa w
theorem Sep.stab {n0:Nat} {R O:Kn} (hR:Stab R) (hO:Stab O):Stab (Sep n0 R O):=fun S w S' w' h f=>by obtain⟨S1,Sa,h1,h2,h3,h4⟩:=h;exact⟨S1,Sa,fun x hx=>⟨f.1 x (h1 x hx).1,(h1 x hx).2⟩,fun x hx=>⟨f.1 x (h2 x hx).1,(h2 x hx).2⟩,hR _ _ _ _ h3 ⟨fun _ h=>h,fun x hx=>f.2 x (h1 x hx).1⟩,hO _ _ _ _ h4 ⟨fun _ h=>h,fun x hx=>f.2 x (h2 x hx).1⟩⟩
theorem Sep.left {n0:Nat} {R O:Kn} (hR:Stab R) {S:Nat->Prop} {w:World} (h:Sep n0 R O S w):R S w:=by obtain⟨S1,Sa,h1,h2,h3,h4⟩:=h;exact hR _ _ _ _ h3 ⟨fun x hx=>(h1 x hx).1,fun _ _=>rfl⟩
theorem Sep.right {n0:Nat} {R O:Kn} (hO:Stab O) {S:Nat->Prop} {w:World} (h:Sep n0 R O S w):O S w:=by obtain⟨S1,Sa,h1,h2,h3,h4⟩:=h;exact hO _ _ _ _ h4 ⟨fun x hx=>(h2 x hx).1,fun _ _=>rfl⟩
theorem Sep.mono {n0:Nat} {R R' O O':Kn} {S:Nat->Prop} {w:World} (h:Sep n0 R O S w) (hR:∀ S,R S w->R' S w) (hO:∀ S,O S w->O' S w):Sep n0 R' O' S w:=by obtain⟨S1,Sa,h1,h2,h3,h4⟩:=h;exact⟨S1,Sa,h1,h2,hR _ h3,hO _ h4⟩
theorem Sep.assoc {n0:Nat} {R X O:Kn} (hR:Stab R) (hX:Stab X) {S:Nat->Prop} {w:World} (h:Sep n0 R (Sep 0 X O) S w):Sep n0 (fun S w=>R S w/\X S w) O S w:=by
 obtain⟨S1,Sa,h1,h2,h3,Sx,So,k1,k2,k3,k4⟩:=h;refine⟨fun x=>S1 x\/Sx x,So,fun x hx=>?_,fun x hx=>h2 x (k2 x hx).1,⟨hR _ _ _ _ h3 ⟨fun _ h=>.inl h,fun _ _=>rfl⟩,hX _ _ _ _ k3 ⟨fun _ h=>.inr h,fun _ _=>rfl⟩⟩,k4⟩;rcases hx with hx | hx
 ·exact⟨(h1 x hx).1,fun ho=>(h1 x hx).2 (k2 x ho).1⟩
 ·exact⟨(h2 x (k1 x hx).1).1,(k1 x hx).2⟩
theorem Sep.swap {n0:Nat} {R O P:Kn} {S:Nat->Prop} {w:World} (h:Sep n0 (Sep n0 R O) P S w):Sep n0 (Sep n0 R P) O S w:=by
 obtain⟨S1,Sp,h1,h2,⟨S2,So,k1,k2,k3,k4⟩,h4⟩:=h;refine⟨fun x=>S2 x\/Sp x,So,fun x hx=>?_,fun x hx=>⟨(h1 x (k2 x hx).1).1,(k2 x hx).2⟩,⟨S2,Sp,fun x hx=>⟨.inl hx,(h1 x (k1 x hx).1).2⟩,fun x hx=>⟨.inr hx,(h2 x hx).2⟩,k3,h4⟩,k4⟩;rcases hx with hx | hx
 ·exact⟨(h1 x (k1 x hx).1).1,(k1 x hx).2⟩
 ·exact⟨(h2 x hx).1,fun ho=>(h1 x (k2 x ho).1).2 hx⟩
section
variable {w0 w w':World} {S:Nat->Prop} {l:List LB} {os:List OR} {R O O' X:Kn}
theorem CtxF.turn (hc:CtxF no w0 S w l os R) {Sa Sn:Nat->Prop} (hSa:∀ x,Sa x->S x/\w0.heap.size<=x) (hT:Turn Sa w w') (hSn:∀ x,Sn x->(Sa x\/w.heap.size<=x)/\x<w'.heap.size) {Y:Kn} (hY:Y (fun x=>(S x/\¬ Sa x)\/Sn x) w') (hs:Stab Y):
  CtxF no w0 (fun x=>(S x/\¬ Sa x)\/Sn x) w' l os Y:=by
 obtain⟨⟨k1,k2,k3,k4,k5⟩,k6,k7,k8⟩:=hc;have hblk:∀ x,x<w.heap.size->¬ S x->w'.heap[x]?=w.heap[x]?:=fun x hx hn=>hT.block x hx (fun h=>hn (hSa x h).1);have hout:∀ x,x<w.heap.size->¬ S x->¬ ((S x/\¬ Sa x)\/Sn x):=fun x hx hn h=>by
  rcases h with h | h
  ·exact hn h.1
  ·rcases (hSn x h).1 with h | h
   ·exact hn (hSa x h).1
   ·omega
 have hlow:∀ x,x<w0.heap.size->w'.heap[x]?=w0.heap[x]?:=fun x hx=>by have h1:=k1.block x hx;exact (hT.block x (heap_lt h1 hx) (fun h=>by have:=(hSa x h).2;omega)).trans h1
 have hsz:w0.heap.size<=w'.heap.size:=by
  rcases Nat.eq_zero_or_pos w0.heap.size with h0 | h0
  ·omega
  ·have:=heap_lt (hlow (w0.heap.size-1) (by omega)) (by omega);omega
 refine⟨⟨⟨hT.os.trans k1.os,hT.tape.trans k1.tape,hT.output.trans k1.output,hsz,hlow⟩,fun _ h=>h.elim,fun x hx=>?_,fun x hx=>?_,?_⟩,?_,hY,hs⟩
 ·rcases hx with hx | hx
  ·exact k3 x hx.1
  ·rcases (hSn x hx).1 with h | h
   ·exact k3 x (hSa x h).1
   ·exact .inr (zo k1.size h)
 ·rcases hx with hx | hx
  ·exact heap_lt (hT.block x (k4 x hx.1) hx.2) (k4 x hx.1)
  ·exact (hSn x hx).2
 ·refine k5.mono (fun x hx=>?_) (fun x hx h=>?_)
  ·obtain⟨i,hi⟩:=List.getElem?_of_mem hx;obtain⟨g,T,cs⟩:=x;exact hblk g (k5.lt _ hx) (k5.notS hi).1
  ·obtain⟨i,hi⟩:=List.getElem?_of_mem hx;obtain⟨g,T,cs⟩:=x;exact absurd h (hout g (k5.lt _ hx) (k5.notS hi).1)
 ·refine k6.step fun o ho a ha=>⟨hblk _ ((k6.mem o ho).lt ha).2 ((k6.mem o ho).out a ha).1,hout _ ((k6.mem o ho).lt ha).2 ((k6.mem o ho).out a ha).1,((k6.mem o ho).out a ha).2⟩
theorem CtxF.turnO (hc:CtxF no w0 S w l os (Sep w0.heap.size R O)) (hR:Stab R) {S1 Sa Sn:Nat->Prop} (h1:∀ x,S1 x->S x/\¬ Sa x) (h2:∀ x,Sa x->S x/\w0.heap.size<=x) (h3:R S1 w) (hT:Turn Sa w w')
  (hSn:∀ x,Sn x->(Sa x\/w.heap.size<=x)/\x<w'.heap.size) (hO:O' Sn w') (hs:Stab O'):CtxF no w0 (fun x=>(S x/\¬ Sa x)\/Sn x) w' l os (Sep w0.heap.size R O'):=by
 refine hc.turn h2 hT hSn ⟨S1,Sn,fun x hx=>⟨.inl (h1 x hx),fun hn=>?_⟩,fun x hx=>⟨.inr hx,?_⟩,hR _ _ _ _ h3 ⟨fun _ h=>h,fun x hx=>?_⟩,hO⟩ (Sep.stab hR hs)
 ·rcases (hSn x hn).1 with h | h
  ·exact (h1 x hx).2 h
  ·have:=hc.ctx.lt x (h1 x hx).1;omega
 ·rcases (hSn x hx).1 with h | h
  ·exact (h2 x h).2
  ·have:=hc.ctx.below.size;omega
 ·exact hT.block x (hc.ctx.lt x (h1 x hx).1) (h1 x hx).2
theorem CtxF.sepNew (hc:CtxF no w0 S w l os R) (hb:Below w.heap.size w w') (hO':O' (ext no w w') w') (hs:Stab O'):CtxF no w0 (ext S w w') w' l os (Sep w0.heap.size R O'):=by
 refine (hc.call hb).1.now (fun _=>⟨S,ext no w w',fun x hx=>⟨.inl hx,fun h=>?_⟩,fun x hx=>?_,?_,hO'⟩) (Sep.stab hc.stab hs)
 ·rcases h with h | h
  ·exact h
  ·have:=hc.ctx.lt x hx;omega
 ·rcases hx with h | h
  ·exact h.elim
  ·exact⟨.inr h,zo hc.ctx.below.size h.1⟩
 ·exact hc.stab _ _ _ _ hc.row ⟨fun _ h=>h,fun x hx=>hb.block x (hc.ctx.lt x hx)⟩
def bare (w:World):World:={ w with heap:=#[] }
def Keep (w:World) (G:Nat->Prop):Kn:=fun S w'=>∀ x,x<w.heap.size->¬ G x->S x/\w'.heap[x]?=w.heap[x]?
theorem Keep.stab (w:World) (G:Nat->Prop):Stab (Keep w G):=fun S w1 S' w2 h f x hx hg=>⟨f.1 x (h x hx hg).1,(f.2 x (h x hx hg).1).trans (h x hx hg).2⟩
theorem y8 {w:World} {G:Nat->Prop}:Stab (Keep w G):=Keep.stab _ _
theorem CtxF.enter {S:Nat->Prop} (hlt:∀ x,S x->x<w.heap.size) (hl:Locs S 0 w l) (ho:Owns S 0 w l os) (hr:R S w) (hs:Stab R):CtxF no (bare w) S w l os R:=
 ⟨⟨⟨rfl,rfl,rfl,zb _,fun k hk=>absurd hk (Nat.not_lt_zero _)⟩,fun _ h=>h.elim,fun b _=>.inr (zb _),hlt,hl⟩,ho,hr,hs⟩
theorem CtxF.leave {G S1:Nat->Prop} (hc:CtxF no (bare w) S w' l os R) (hk:Keep w G S1 w'):Turn G w w':=
 ⟨hc.ctx.below.os,hc.ctx.below.tape,hc.ctx.below.output,fun x hx hg=>(hk x hx hg).2⟩
theorem Keep.of {G S0 S1:Nat->Prop} {w w':World} (hk:Keep w G S1 w') {X:Kn} (hs:Stab X) (h:X S0 w) (hlt:∀ x,S0 x->x<w.heap.size/\¬ G x):X S1 w':=
 hs _ _ _ _ h ⟨fun x hx=>(hk x (hlt x hx).1 (hlt x hx).2).1,fun x hx=>(hk x (hlt x hx).1 (hlt x hx).2).2⟩
end
end Go.Vc
end
section
namespace Go.Proofs.YtefdfaeieekioaaGreatDoor
open Go.Vc Go.RowKit Go.Fl Go.ChangeShapes Go.WideShapes Go.ChangeAt
section
variable {H:Type} {enc:TypeId × Value->H} {P:Program} {w:World} {base:Nat} {spare:Nat->Bool} {held:Bool} {fuel:Nat} {t:TypeId} {cs:List Value} {x:DataW H × List MemPlace}
theorem B4T (ht:P.underlying t=some (.int .i64)) (h:DataW.trod enc P w base spare held fuel t cs=some x):∃ n,cs=[.int .i64 n]/\B3 n:=by obtain⟨n,e,_,hw⟩:=DataW.trod_int ht h;simp only [Lit.wf,z7,y0] at hw;refine⟨n,e,?_⟩;have h1:=hw.1;have h2:=hw.2;rw [show IntKind.i64.min = -9223372036854775808 by decide] at h1;rw [show IntKind.i64.max=9223372036854775807 by decide] at h2;exact⟨h1,h2⟩
theorem C0p (ht:P.underlying t=some .string) (h:DataW.trod enc P w base spare held fuel t cs=some x):∃ s,cs=[.string s]/\s.size<=maxLen:=by obtain⟨s,e,_,hw⟩:=DataW.trod_string ht h;exact⟨s,e,hw⟩
theorem C2q (ht:P.underlying t=some .bool) (h:DataW.trod enc P w base spare held fuel t cs=some x):∃ b,cs=[.bool b]:=by obtain⟨b,e,_⟩:=DataW.trod_bool ht h;exact⟨b,e⟩
theorem C0q {fs:Array Field} (ht:P.underlying t=some (.struct fs)) (h:DataW.trod enc P w base spare held fuel t cs=some x):
  cs.length=P.cellsOf t/\∀ (i:Nat) (f:Field),fs[i]?=some f->∃ n y,DataW.trod enc P w base spare held n f.type ((cs.drop f.offset).take (P.cellsOf f.type))=some y:=by
 obtain⟨xs,n,_,_,hl,hlen,hf⟩:=DataW.trod_struct ht h;refine⟨hl,fun i f hi=>⟨n,?_⟩⟩;have hi':i<xs.length:=by rw [hlen];exact (Array.getElem?_eq_some_iff.1 hi).1
 exact⟨xs[i],by rw [hf i f hi,List.getElem?_eq_getElem hi']⟩
theorem fld {fs:Array Field} (h2:∀ (i:Nat) (f:Field),fs[i]?=some f->∃ n y,DataW.trod enc P w base spare held n f.type ((cs.drop f.offset).take (P.cellsOf f.type))=some y)
  (i:Nat) (f:Field) (hi:fs[i]?=some f) (T:TypeId) (hT:f.type=T) (k:Nat) (hk:P.cellsOf T=k) (o:Nat) (ho:f.offset=o):∃ n y,DataW.trod enc P w base spare held n T ((cs.drop o).take k)=some y:=by
 subst hT;subst hk;subst ho;exact h2 i f hi
theorem B5L {a:Addr} {u:Value} (h:w.cell? a=some u):a.block<w.heap.size:=by
 rcases zl a.block w.heap.size with h1 | h1
 ·exact h1
 ·have h2:w.heap[a.block]?=none:=by simp;omega
  simp [World.cell?,h2] at h
theorem B2s {e:TypeId} (hk:0<P.cellsOf e) (ht:P.underlying t=some (.slice e)) (h:DataW.trod enc P w base spare held fuel t cs=some x):
  ∃ A len cap,cs=[.slice A len cap]/\len<=cap/\cap<=maxLen/\∀ i,i<len->∃ a c n y,A=some a/\c.length=P.cellsOf e/\a.block<w.heap.size/\(∀ j,j<P.cellsOf e->w.cell? (a.add (i*P.cellsOf e+j))=c[j]?)/\DataW.trod enc P w base spare held n e c=some y:=by
 rcases DataW.trod_slice ht h with ⟨rfl,_⟩ | ⟨a,len,cap,elems,rest,n,_,rfl,_,hb,hlc,hcm,hel,hi,_⟩
 ·exact⟨none,0,0,rfl,zc _,zb _,fun i hi=>absurd hi (by omega)⟩
 ·refine⟨some a,len,cap,rfl,hlc,hcm,fun i hil=>?_⟩;have h1:=hi i hil;rw [List.getElem?_eq_getElem (by omega)] at h1;obtain⟨c,hc,hr⟩:=Option.bind_eq_some_iff.1 h1;obtain⟨_,hcl,hcc⟩:=World.cells?_some hc;refine⟨a,c,n,_,rfl,hcl,?_,fun j hj=>?_,hr⟩
  ·have h0:=hcc 0 hk;rw [List.getElem?_eq_getElem (by omega)] at h0;have:=B5L h0;rwa [K8,K8] at this
  ·rw [<-add_add];exact hcc j hj
theorem B0c {k:Nat}:∀ (css:List (List Value)),(∀ c∈css,c.length=k)->∀ (m:Nat) (u:Value),css.flatten[m]?=some u->∃ i j c,css[i]?=some c/\j<k/\m=i*k+j/\c[j]?=some u
 | [],_,m,u,h=>by simp at h
 | c::r,hl,m,u,h=>by
  have hc:=hl c (by simp);rw [List.flatten_cons] at h;rcases zl m k with hm | hm
  ·rw [List.getElem?_append_left (by omega)] at h;exact⟨0,m,c,rfl,hm,by omega,h⟩
  ·rw [List.getElem?_append_right (by omega),hc] at h;obtain⟨i,j,c',h1,h2,h3,h4⟩:=B0c r (fun x hx=>hl x (by simp [hx])) (m-k) u h;exact⟨i+1,j,c',by simpa using h1,h2,by rw [Nat.succ_mul];omega,h4⟩
theorem B5M {α:Type} {e:TypeId} (R:α->List Value->Prop) (hk:0<P.cellsOf e) (hread:∀ n c y,DataW.trod enc P w base spare held n e c=some y->∃ a,R a c)
  (ht:P.underlying t=some (.slice e)) (h:DataW.trod enc P w base spare held fuel t cs=some x):
  ∃ A cap,∃ (l:List α) (css:List (List Value)),cs=[.slice A l.length cap]/\css.length=l.length/\(∀ (i:Nat) (a:α) (c:List Value),l[i]?=some a->css[i]?=some c->R a c)/\(∀ c∈css,c.length=P.cellsOf e)/\Row (fun b=>b<w.heap.size) w A l.length cap css.flatten:=by
 obtain⟨A,len,cap,rfl,hlc,hcm,hel⟩:=B2s hk ht h;have hex:∀ i:Fin len,∃ q:Addr × List Value × α,A=some q.1/\q.2.1.length=P.cellsOf e/\q.1.block<w.heap.size/\(∀ j,j<P.cellsOf e->w.cell? (q.1.add (i.val*P.cellsOf e+j))=q.2.1[j]?)/\R q.2.2 q.2.1:=by intro i;obtain⟨a,c,n,y,h1,h2,h3,h4,h5⟩:=hel i.val i.isLt;obtain⟨b,hb⟩:=hread n c y h5;exact⟨(a,c,b),h1,h2,h3,h4,hb⟩
 obtain⟨f,hf⟩:=Classical.axiomOfChoice hex;refine⟨A,cap,List.ofFn fun i=>(f i).2.2,List.ofFn fun i=>(f i).2.1,by simp,by simp,?_,?_,?_⟩
 ·intro i a c h1 h2;rw [List.getElem?_ofFn] at h1 h2;split at h1
  ·rename_i hi;rw [dif_pos hi] at h2;cases h1;cases h2;exact (hf ⟨i,hi⟩).2.2.2.2
  ·cases h1
 ·intro c hc;obtain⟨i,rfl⟩:=List.mem_ofFn.1 hc;exact (hf i).2.1
 ·rw [List.length_ofFn];refine⟨hlc,hcm,fun hne=>?_⟩;have hpos:0<len:=by
   rcases Nat.eq_zero_or_pos len with h0 | h0
   ·subst h0;exact absurd (by simp) hne
   ·exact h0
  obtain⟨hA,_,hS,_,_⟩:=hf ⟨0,hpos⟩;refine⟨(f ⟨0,hpos⟩).1,hA,hS,fun m u hu=>?_⟩;obtain⟨i,j,c,h1,h2,rfl,h4⟩:=B0c _ (fun c hc=>by obtain⟨i,rfl⟩:=List.mem_ofFn.1 hc;exact (hf i).2.1) m u hu;rw [List.getElem?_ofFn] at h1;split at h1
  ·rename_i hi;cases h1;rw [Option.some.inj (hA.symm.trans (hf ⟨i,hi⟩).1)];rw [(hf ⟨i,hi⟩).2.2.2.1 j h2];exact h4
  ·cases h1
end
theorem C1S {c:List Value} (h:c.length=8):∃ a0 a1 a2 a3 a4 a5 a6 a7,c=[a0,a1,a2,a3,a4,a5,a6,a7]:=by
 match c,h with
 | [a0,a1,a2,a3,a4,a5,a6,a7],_=>exact⟨a0,a1,a2,a3,a4,a5,a6,a7,rfl⟩
theorem C1L:Tryz.prog.cellsOf 3=1:=by kernel_rfl
theorem B8F:Tryz.prog.cellsOf 2=1:=by kernel_rfl
theorem C1M:Tryz.prog.cellsOf 9=1:=by kernel_rfl
theorem C1H:Tryz.prog.cellsOf 45=8:=by kernel_rfl
section
variable {H:Type} {enc:TypeId × Value->H} {w:World} {base:Nat} {spare:Nat->Bool} {held:Bool} {fuel:Nat} {cs:List Value} {x:DataW H × List MemPlace}
theorem C1N (h:DataW.trod enc Tryz.prog w base spare held fuel 45 cs=some x):∃ d:D,cs=dC d/\d.Ok:=by obtain⟨hl,hf⟩:=C0q Tryz.underlying45 h;rw [C1H] at hl;obtain⟨c0,c1,c2,c3,c4,c5,c6,c7,rfl⟩:=C1S hl;obtain⟨_,_,h0⟩:=fld hf 0 _ rfl 3 rfl 1 C1L 0 rfl;obtain⟨_,_,h1⟩:=fld hf 1 _ rfl 9 rfl 1 C1M 1 rfl;obtain⟨_,_,h2⟩:=fld hf 2 _ rfl 9 rfl 1 C1M 2 rfl;obtain⟨_,_,h3⟩:=fld hf 3 _ rfl 2 rfl 1 B8F 3 rfl;obtain⟨_,_,h4⟩:=fld hf 4 _ rfl 3 rfl 1 C1L 4 rfl;obtain⟨_,_,h5⟩:=fld hf 5 _ rfl 9 rfl 1 C1M 5 rfl;obtain⟨_,_,h6⟩:=fld hf 6 _ rfl 2 rfl 1 B8F 6 rfl;obtain⟨_,_,h7⟩:=fld hf 7 _ rfl 2 rfl 1 B8F 7 rfl;obtain⟨n0,e0,k0⟩:=B4T Tryz.underlying3 h0;obtain⟨n1,e1,k1⟩:=C0p Tryz.underlying9 h1;obtain⟨n2,e2,k2⟩:=C0p Tryz.underlying9 h2;obtain⟨n3,e3,k3⟩:=B4T Tryz.underlying2 h3;obtain⟨n4,e4,k4⟩:=B4T Tryz.underlying3 h4;obtain⟨n5,e5,k5⟩:=C0p Tryz.underlying9 h5;obtain⟨n6,e6,k6⟩:=B4T Tryz.underlying2 h6;obtain⟨n7,e7,k7⟩:=B4T Tryz.underlying2 h7;cases e0;cases e1;cases e2;cases e3;cases e4;cases e5;cases e6;cases e7;have hm:∀ {n:Nat},n<=maxLen->n<=9223372036854775807:=fun h=>zo h (by decide);exact⟨⟨n0,n1,n2,n3,n4,n5,n6,n7⟩,rfl,⟨k0,hm k1,hm k2,k3,k4,hm k5,k6,k7⟩⟩
end
section
variable {H:Type} {enc:TypeId × Value->H} {P:Program} {w:World} {base:Nat} {spare:Nat->Bool} {held:Bool} {fuel:Nat} {t:TypeId} {cs:List Value} {x:DataW H × List MemPlace}
theorem B5N {α:Type} {e:TypeId} (f:α->List Value) (Ok:α->Prop) (hk:0<P.cellsOf e) (hread:∀ n c y,DataW.trod enc P w base spare held n e c=some y->∃ a,c=f a/\Ok a)
  (ht:P.underlying t=some (.slice e)) (h:DataW.trod enc P w base spare held fuel t cs=some x):
  ∃ A cap,∃ l:List α,cs=[.slice A l.length cap]/\Row (fun b=>b<w.heap.size) w A l.length cap (l.map f).flatten/\∀ a∈l,Ok a:=by
 obtain⟨A,cap,l,css,rfl,hl,hR,_,hrow⟩:=B5M (fun a c=>c=f a/\Ok a) hk hread ht h;refine⟨A,cap,l,rfl,?_,fun a ha=>?_⟩
 ·have:css=l.map f:=by refine List.ext_getElem (by simpa using hl) fun i h1 h2=>?_;rw [List.getElem_map];exact (hR i _ _ (List.getElem?_eq_getElem (by omega)) (List.getElem?_eq_getElem h1)).1
  rwa [this] at hrow
 ·obtain⟨i,hi,rfl⟩:=List.getElem_of_mem ha;exact (hR i _ _ (List.getElem?_eq_getElem hi) (List.getElem?_eq_getElem (by omega))).2
end
theorem C23:Tryz.prog.cellsOf 4=1:=by kernel_rfl
theorem mx {n:Nat} (h:n<=maxLen):n<=9223372036854775807:=zo h (by decide)
section
variable {H:Type} {enc:TypeId × Value->H} {w:World} {base:Nat} {spare:Nat->Bool} {held:Bool} {fuel:Nat} {cs:List Value} {x:DataW H × List MemPlace}
abbrev inW (w:World) (b:Nat):Prop:=b<w.heap.size
end
section
variable {H:Type} {enc:TypeId × Value->H} {W:World} {base:Nat} {sp:Nat->Bool} {hd:Bool} {v:Value} {d:DataW H} {p:List MemPlace}
theorem B0d {α:Type} {t e:TypeId} (f:α->List Value) (Ok:α->Prop) (hk:0<Tryz.prog.cellsOf e) (hread:∀ n c y,DataW.trod enc Tryz.prog W 0 sp hd n e c=some y->∃ a,c=f a/\Ok a) (ht:Tryz.prog.underlying t=some (.slice e))
  (h:DataW.Trod enc Tryz.prog W 0 sp hd t v d p) (k:Value.okWide Tryz.prog W .any base t v):∃ A cap,∃ l:List α,v=.slice A l.length cap/\Row (inW W) W A l.length cap (l.map f).flatten/\∀ a∈l,Ok a:=by
 obtain⟨a0,len,cap0,rfl⟩:=okWide_slice ht k;obtain⟨fuel,hf⟩:=h;obtain⟨A,cap,l,e1,hr,hl⟩:=B5N f Ok hk hread ht hf;have e2:(Value.slice a0 len cap0).cells.toList=[.slice a0 len cap0]:=rfl;rw [e2] at e1;cases e1;exact⟨a0,cap0,l,rfl,hr,hl⟩
theorem B9x (h:DataW.Trod enc Tryz.prog W 0 sp hd 22 v d p) (k:Value.okWide Tryz.prog W .any base 22 v):∃ A cap,∃ l:List D,v=.slice A l.length cap/\Row (inW W) W A l.length cap (l.map dC).flatten/\∀ a∈l,a.Ok:=
 B0d dC D.Ok (by rw [C1H];decide) (fun _ _ _ h=>C1N h) Tryz.underlying22 h k
theorem C4l (h:DataW.Trod enc Tryz.prog W 0 sp hd 23 v d p) (k:Value.okWide Tryz.prog W .any base 23 v):∃ A cap,∃ l:List Bool,v=.slice A l.length cap/\Row (inW W) W A l.length cap (l.map fun b=>[.bool b]).flatten:=
 let ⟨A,cap,l,h1,h2,_⟩:=B0d (fun b=>[.bool b]) (fun _=>True) (by rw [C23];decide) (fun _ _ _ h=>let ⟨b,hb⟩:=C2q Tryz.underlying4 h;⟨b,hb,trivial⟩) Tryz.underlying23 h k
 ⟨A,cap,l,h1,h2⟩
end
end Go.Proofs.YtefdfaeieekioaaGreatDoor
end
section
namespace Go.Vc
open Go Go.RowKit
theorem Drawn.join {P:Program} {id:Nat} {ops:Array Oper} {f:Fr} {w:World} {K:Fr->World->Prop} {α:Type} (l:α->List (Nat × Value)) (R:α->World->Prop)
  (h:Drawn P id ops f w (fun f' w'=>∃ x,B19 f' (l x)/\R x w')) (hk:∀ x u w',R x w'->K (Go.Vc.mk (l x) u) w'):Drawn P id ops f w K:=
 ⟨fun n a h1 h2=>wp_mono (h.wp n a h1 h2) fun e a' w' ⟨he,f',ha,x,hf,hr⟩=>⟨he,f',ha,by have:=hk x f' w' hr;rwa [A55 hf] at this⟩⟩
abbrev Old (w x:World):Prop:=Keeps (fun b=>b<w.heap.size) w x
theorem Old.start (w:World):Old w w.drew:=Keeps.start _ _
theorem CtxF.old0 {S0 S:Nat->Prop} {w0 w:World} {l:List LB} {os:List OR} {R:Kn} (_:CtxF S0 w0 S w l os R):Old w w.drew:=Keeps.start _ _
theorem CtxF.swapL {S0 S:Nat->Prop} {w0 w:World} {x y:LB} {l:List LB} {os:List OR} {R:Kn} (hc:CtxF S0 w0 S w (x::y::l) os R):CtxF S0 w0 S w (y::x::l) os R:=by
 obtain⟨⟨h1,h2,h3,h4,h5⟩,h6,h7,h8⟩:=hc;obtain⟨g,T,cs⟩:=x;obtain⟨g',T',cs'⟩:=y;obtain⟨a1,a2,a3,a4,b1,b2,b3,b4,b5⟩:=h5;refine⟨⟨h1,h2,h3,h4,b1,b2,b3,fun z hz=>?_,a1,a2,a3,fun z hz=>a4 z (zt _ hz),b5⟩,h6.step fun o ho a ha=>⟨rfl,((h6.mem o ho).out a ha).1,fun z hz=>((h6.mem o ho).out a ha).2 z ?_⟩,h7,h8⟩
 ·cases hz with
  | head=>exact fun e=>a4 (g',T',cs') (zu ..) e.symm
  | tail _ hz=>exact b4 z hz
 ·cases hz with
  | head=>exact zt _ (zu ..)
  | tail _ hz=>
   cases hz with
   | head=>exact zu ..
   | tail _ hz=>exact zt _ (zt _ hz)
end Go.Vc
namespace Go.Proofs.YtefdfaeieekioaaGreatDoor
open Go.Vc Go.RowKit Go.Fl Go.ChangeShapes Go.WideShapes Go.ChangeAt
structure SX where
 A:Option Addr
 cap:Nat
 B:Option Addr
 cap':Nat
 l0:Int
 l1:Int
 l2:Int
 l3:Int
 l4:Int
def stX (s:Stt) (x:SX):List Value:=[.int .i64 s.seq,.slice x.A s.l.length x.cap,.slice x.B s.ms.length x.cap',.int .i64 x.l0,.int .i64 x.l1,.int .i64 x.l2,.int .i64 x.l3,.int .i64 x.l4]
def SX0:SX:=⟨none,0,none,0,0,0,0,0,0⟩
theorem RepS.stX {S:Nat->Prop} {w:World} {s:Stt} {cs:List Value} (h:RepS S w s cs):∃ x,cs=stX s x:=by obtain⟨A,cap,css,B,cap',l0,l1,l2,l3,l4,rfl,_⟩:=h.shape;exact⟨⟨A,cap,B,cap',l0,l1,l2,l3,l4⟩,rfl⟩
theorem A15 (S:Nat->Prop) (w:World):RepS S w A4z (stX A4z SX0):=rep0 S w
theorem V4 (l:List D):Flat 8 (l.map dC):=Flat.map dC (fun d=>⟨rfl,rfl⟩) l
theorem Old.looks {w x:World} (h:Old w x) {a:Addr} {cs:List Value} {i:Nat} (hc:Go.Vc.cellsAt w a cs i):Go.Vc.cellsAt x a cs i:=Keeps.looks h _ _ hc
end Go.Proofs.YtefdfaeieekioaaGreatDoor
end
namespace Go.Proofs.YtefdfaeieekioaaGreatDoor
open Go.Vc Go.RowKit Go.Fl
def doF (s:Stt) (d:D):Stt × Res:=
 if d.req<I5 s.lows (S6 d.req) then (⟨s.seq+1,s.l,s.ms,s.lows⟩,⟨12,0⟩)
 else match V1 s.ms d.req with
  | some m=>(⟨s.seq+1,s.l,s.ms,s.lows⟩,m.res)
  | none=>
   if 100<=s.ms.length then (⟨s.seq+1,s.l,s.ms,s.lows⟩,⟨5,0⟩)
   else
    let q:=doK s.l (s.seq+1) d;let ms:=s.ms.take (N5 s.ms d.req)++⟨d.req,q.2⟩::s.ms.drop (N5 s.ms d.req)
    if I5 s.lows (S6 d.req)<d.low/\S6 d.low=S6 d.req then
     (⟨s.seq+1,q.1,N7 d.low (S6 d.req) ms,s.lows.set (S6 d.req-1).toNat d.low⟩,q.2)
    else (⟨s.seq+1,q.1,ms,s.lows⟩,q.2)
theorem B8G {s:Stt} {d:D} (h:T5 s=true) (hd:L3 d=true) (hq:s.seq<E3):doS s d=doF s d:=by unfold doS doF;rw [y7 (by rw [h,hd];decide),y7 (by omega)];rfl
theorem B5O (s:Stt) (d:D):(doS s d).1.seq<=s.seq+1:=by
 cases A7Q s d with
 | form _ e=>rw [e];show s.seq<=_;omega
 | top _ e=>rw [e];show s.seq<=_;omega
 | old _ _ _ _ e=>rw [e];exact Int.le_refl _
 | told _ _ _ _ _ _ e=>rw [e];exact Int.le_refl _
 | full _ _ _ _ _ _ e=>rw [e];exact Int.le_refl _
 | new _ _ _ _ _ _ _ _ _ _ e=>rw [e];exact Int.le_refl _
def U0 (s:Stt) (l:List D):Stt:=l.foldl (fun s d=>(doS s d).1) s
theorem A7T:∀ (l:List D) {s:Stt},T5 s=true->s.lows.length=5->T5 (U0 s l)=true/\(U0 s l).lows.length=5/\(U0 s l).seq<=s.seq+l.length
 | [],s,h,h5=>⟨h,h5,by show s.seq<=s.seq+((0:Nat):Int);omega⟩
 | d::r,s,h,h5=>by obtain⟨a,b,c⟩:=A7T r (A7G (d:=d) h5 h) (A5C d h5);have:=B5O s d;refine⟨a,b,Int.le_trans c ?_⟩;rw [zi];omega
theorem A8L {s:Stt} (h:T5 s=true) (h5:s.lows.length=5):∀ e∈s.l,X6 e.key:=fun e he=>((B5K h5 h).l e he).key
theorem A8M (s:Stt) (l:List D) (d:D):U0 s (l++[d])=(doS (U0 s l) d).1:=by unfold U0;rw [List.foldl_append];rfl
theorem _root_.Go.Vc.Old.new {w x x':World} {cs:List Value} {T g:Nat} (hk:Old w x) (h:New x cs T g x'):¬ g<w.heap.size:=by have h1:=hk.2;have h2:=h.1;omega
end Go.Proofs.YtefdfaeieekioaaGreatDoor
namespace Go.Proofs.YtefdfaeieekioaaGreatDoor
open Go.Vc Go.RowKit Go.Fl Go.ChangeShapes Go.WideShapes Go.ChangeAt
structure Scroll where
 s:ByteArray
 pressed:Int
 kept:Bool
structure Chest where
 room:Int
 f:ByteArray->Option Scroll
 k:Nat
def scC (r:Scroll):List Value:=[.string r.s,.int .i64 r.pressed,.bool r.kept]
def sc0:Scroll:=⟨⟨#[]⟩,0,false⟩
def scD (r:Scroll):DataW Unit:=.agg [.lit (.string r.s.data.toList),.lit (.int .i64 r.pressed),.lit (.bool r.kept)]
def scR:Value->Option (DataW Unit × List MemPlace)
 | .agg cs=>match cs.toList with
  | [.string s,.int .i64 p,.bool k]=>some (scD ⟨s,p,k⟩,[])
  | _=>none
 | _=>none
theorem B0e (r:Scroll):scR (.agg (scC r).toArray)=some (scD r,[]):=rfl
theorem B0f {a b:Scroll} (h:scD a=scD b):a=b:=by
 obtain⟨s,p,k⟩:=a;obtain⟨s',p',k'⟩:=b;unfold scD at h;injection h with h
 injection h with h1 h2
 injection h2 with h2 h3
 injection h3 with h3 h4
 injection h1 with h1
 injection h1 with h1
 injection h2 with h2
 injection h2 with _ h2
 injection h3 with h3
 injection h3 with h3
 have h1:s.data.toList=s'.data.toList:=h1;have e:s=s':=D2.1 (beq_iff_eq.2 h1);have h2:p=p':=h2;have h3:k=k':=h3;subst e h2 h3;rfl
theorem B0g {v:Value} {d:DataW Unit} {ps:List MemPlace} (h:scR v=some (d,ps)):∃ r,v=.agg (scC r).toArray/\d=scD r:=by
 unfold scR at h;split at h
 ·rename_i cs;split at h
  ·rename_i s p k e;cases h;refine⟨⟨s,p,k⟩,?_,rfl⟩;show Value.agg cs=.agg (scC ⟨s,p,k⟩).toArray;rw [show scC ⟨s,p,k⟩=cs.toList from e.symm,Array.toArray_toList]
  ·cases h
 ·cases h
def MapC (b k:Nat) (f:ByteArray->Option Scroll) (w:World):Prop:=
 ∃ D:DataW Unit,w.ownsMap Tryz.prog 9 scR b k D/\Maps.size D=k/\∀ x:ByteArray,x.size<=maxLen->Maps.has D (.string x.data.toList)=(f x).isSome/\∀ r,f x=some r->D.atKey (.string x.data.toList) (scD sc0)=scD r
theorem MapC.eq {b k:Nat} {f:ByteArray->Option Scroll} {w w':World} (h:MapC b k f w) (e:w'.heap[b]?=w.heap[b]?):MapC b k f w':=by obtain⟨D,⟨es,clock,h1,h2⟩,h3⟩:=h;exact⟨D,⟨es,clock,e.trans h1,h2⟩,h3⟩
theorem MapC.lt {b k:Nat} {f:ByteArray->Option Scroll} {w:World} (h:MapC b k f w):b<w.heap.size:=by obtain⟨D,h,_⟩:=h;exact h.lt
theorem B2u:Tryz.prog.underlying 117=some (.map 9 121):=Tryz.underlying117
theorem B4U (w:World):(zeroValue 121).run Tryz.prog w=.ok (.agg (scC sc0).toArray) w:=by kernel_rfl
theorem A29:Maps.Keyed Tryz.prog 9:=Maps.string_keyed Tryz.underlying9
theorem B7q {x:ByteArray} (h:x.size<=maxLen):keyOf Tryz.prog 9 (.string x)=some (.string x.data.toList):=WideMaps.keyOf_string_mk Tryz.underlying9 h
theorem A3l {x y:ByteArray} (h:x≠y):(Lit.string x.data.toList)≠.string y.data.toList:=fun e=>h (by
 injection e with e
 exact D2.1 (beq_iff_eq.2 e))
theorem MapC.made (w:World):MapC w.heap.size 0 (fun _=>none) (w.alloc (.map #[] 0)):=
 ⟨.map [],World.ownsMap_made w _ _ _,rfl,fun x _=>⟨rfl,fun s h=>by cases h⟩⟩
theorem B0h {D:DataW Unit} {f:ByteArray->Option Scroll} {x:ByteArray} (h:Maps.has D (.string x.data.toList)=(f x).isSome/\∀ r,f x=some r->D.atKey (.string x.data.toList) (scD sc0)=scD r):D.atKey (.string x.data.toList) (scD sc0)=scD ((f x).getD sc0):=by
 cases e:f x with
 | none=>
  rw [e] at h;exact Maps.atKey_of_not_has h.1 _
 | some r=>exact h.2 r e
theorem MapC.look_ok {b k:Nat} {f:ByteArray->Option Scroll} {w:World} (h:MapC b k f w) {x:ByteArray} (hx:x.size<=maxLen):(Instr.lookup 117 (.map (some b)) (.string x) true).run Tryz.prog w=.ok (.tuple #[.agg (scC ((f x).getD sc0)).toArray,.bool (f x).isSome]) w:=by obtain⟨D,hD,_,hf⟩:=h;obtain⟨v,ps,hr,hv⟩:=hD.look_ok A29 B2u (B4U w) (B0e sc0) (B7q hx);rw [B0h (hf x hx)] at hv;obtain⟨r,rfl,hd⟩:=B0g hv;rw [(hf x hx).1,<-B0f hd] at hr;exact hr
theorem MapC.look {b k:Nat} {f:ByteArray->Option Scroll} {w:World} (h:MapC b k f w) {x:ByteArray} (hx:x.size<=maxLen):(Instr.lookup 117 (.map (some b)) (.string x) false).run Tryz.prog w=.ok (.agg (scC ((f x).getD sc0)).toArray) w:=by obtain⟨D,hD,_,hf⟩:=h;obtain⟨v,ps,hr,hv⟩:=hD.lookup A29 B2u (B4U w) (B0e sc0) (B7q hx);rw [B0h (hf x hx)] at hv;obtain⟨r,rfl,hd⟩:=B0g hv;rw [<-B0f hd] at hr;exact hr
def A4U (f:ByteArray->Option Scroll) (x:ByteArray) (r:Scroll):ByteArray->Option Scroll:=fun y=>if y=x then some r else f y
def B6z (f:ByteArray->Option Scroll) (x:ByteArray):ByteArray->Option Scroll:=fun y=>if y=x then none else f y
def A7U (f:ByteArray->Option Scroll) (k:Nat) (x:ByteArray):Nat:=if (f x).isSome then k else k+1
def B6S (f:ByteArray->Option Scroll) (k:Nat) (x:ByteArray):Nat:=if (f x).isSome then k-1 else k
theorem A0L {P:Program} {t:TypeId} {R:Value->Option (DataW Unit × List MemPlace)} {w:World} {b n:Nat} {D:DataW Unit} (h:w.ownsMap P t R b n D):w.ownsMap P t R b (Maps.size D) D:=by obtain⟨es,clock,h1,h2,h3,rfl⟩:=h;exact⟨es,clock,h1,h2,by simp [Maps.size,length_sorted],rfl⟩
theorem MapC.store {b k:Nat} {f:ByteArray->Option Scroll} {w:World} (h:MapC b k f w) {x:ByteArray} (hx:x.size<=maxLen) (hk:k<1000000) (r:Scroll):
  ∃ w',(Instr.mapUpdate 117 (.map (some b)) (.string x) (.agg (scC r).toArray)).run Tryz.prog w=.ok () w'/\w.grownBy w' (some b)/\w'.heap.size=w.heap.size/\MapC b (A7U f k x) (A4U f x r) w':=by
 obtain⟨D,hD,hz,hf⟩:=h;obtain⟨w',h1,h2,h3⟩:=hD.store A29 B2u (Nat.lt_of_lt_of_le hk (by decide)) (B7q hx) (B0e r);have hI:=hD.isMap;have hkl:WideAt.IsKeyLit (.string x.data.toList):=trivial;have hsz:=Maps.size_put (k:=.string x.data.toList) (hD.tidy A29) (scD r);have h2':=A0L h2;have e:Maps.size (D.put (.string x.data.toList) (scD r))=A7U f k x:=by rw [hsz,(hf x hx).1,hz];rfl
 rw [e] at h2';refine⟨w',h1,h3.grown,?_,_,h2',e,fun y hy=>?_⟩
 ·obtain⟨es,clock,es',clock',_,rfl⟩:=h3;simp [ChangeMaps.setBlock]
 unfold A4U;by_cases hyx:y=x
 ·subst hyx;rw [y6 rfl];refine⟨Maps.has_put_same hI hkl _,fun t ht=>?_⟩;rw [Maps.atKey_put_same hI hkl];cases ht;rfl
 ·rw [y7 hyx];exact⟨(Maps.has_put_other (A3l hyx) _).trans (hf y hy).1,fun t ht=>(Maps.atKey_put_other (A3l hyx) _ _).trans ((hf y hy).2 t ht)⟩
theorem B9G {P:Program} {ts cs} {ty:TypeId} {args:Array Value} {w w':World} {v:Value} (h:(Builtin.delete_ ts ty args).run P w=.ok v w'):(builtin .delete ts ty cs args).run P w=.ok (.value v) w':=by show ((do pure (Next.value (<-Builtin.delete_ ts ty args))):Sem Next).run P w=_;rw [Sem.run_bind,h];rfl
theorem MapC.drop {b k:Nat} {f:ByteArray->Option Scroll} {w:World} (h:MapC b k f w) {x:ByteArray} (hx:x.size<=maxLen) (ty:TypeId) (cs:Array Bool):
  ∃ w',(builtin .delete #[117,9] ty cs #[.map (some b),.string x]).run Tryz.prog w=.ok (.value (.tuple #[])) w'/\w.grownBy w' (some b)/\w'.heap.size=w.heap.size/\MapC b (B6S f k x) (B6z f x) w':=by
 obtain⟨D,hD,hz,hf⟩:=h;obtain⟨w',h1,h2,h3⟩:=hD.drop A29 B2u (B7q hx) ty;have hsz:=Maps.size_del (k:=.string x.data.toList) (hD.tidy A29);have h2':=A0L h2;have e:Maps.size (D.del (.string x.data.toList))=B6S f k x:=by
  rw [(hf x hx).1,hz] at hsz;unfold B6S;split
  ·rename_i h;rw [h] at hsz;simp only [if_true] at hsz;omega
  ·rename_i h;rw [y7 h] at hsz;omega
 rw [e] at h2';refine⟨w',B9G h1,h3.grown,?_,_,h2',e,fun y hy=>?_⟩
 ·obtain⟨es,clock,es',clock',_,rfl⟩:=h3;simp [ChangeMaps.setBlock]
 unfold B6z;by_cases hyx:y=x
 ·subst hyx;rw [y6 rfl];exact⟨Maps.has_del_same,fun t ht=>by cases ht⟩
 ·rw [y7 hyx];exact⟨(Maps.has_del_other (A3l hyx)).trans (hf y hy).1,fun t ht=>(Maps.atKey_del_other (A3l hyx) _).trans ((hf y hy).2 t ht)⟩
def A5D (s:ByteArray):Bool:=s.data.toList.all (fun c=>65<=c&&c<=90)&&decide (1<=s.size)&&decide (s.size<=10)
theorem B0i (c:UInt8) (w:World):Calls Tryz.prog 219 #[.int .u8 (c.toNat:Int)] w (C8 (.bool (!(65<=c&&c<=90))) w):=by
 refine vE Tryz.func219 ?_;have h1:(65<=c)↔(65:Int)<=(c.toNat:Int):=by rw [UInt8.le_iff_toNat_le];show 65<=c.toNat↔_;omega
 have h2:(c<=90)↔(c.toNat:Int)<=(90:Int):=by rw [UInt8.le_iff_toNat_le];show c.toNat<=90↔_;omega
 by_cases h:(c.toNat:Int)<65
 ·refine dt h ?_;refine⟨B7 ?_,Below.refl _ _⟩;have e:¬ 65<=c:=by rw [h1];omega
  simp [e]
 ·refine df h ?_;have e:65<=c:=by rw [h1];omega
  refine⟨B7 ?_,Below.refl _ _⟩;have e2:decide ((90:Int)<(c.toNat:Int))=!(decide (65<=c)&&decide (c<=90)):=by
   rw [zy e];by_cases h3:c<=90
   ·rw [zy h3,zz (by rw [h2] at h3;omega)];rfl
   ·rw [zz h3,zy (by rw [h2] at h3;omega)];rfl
  exact e2
theorem A3m {α:Type} (p:α->Bool) (l:List α):decide (0<=B5A (l.findIdx? p))=l.any p:=by
 rw [<-List.findIdx?_isSome];cases l.findIdx? p with
 | none=>rfl
 | some i=>exact zy (Int.natCast_nonneg i)
theorem A16 {α:Type} (p:α->Bool) (l:List α) (i:Nat) (hi:i<l.length) (hp:p l[i]=true) (h:∀ j (hj:j<l.length),j<i->p l[j]=false):l.findIdx? p=some i:=
 List.findIdx?_eq_some_iff_getElem.2 ⟨hi,hp,fun j hj=>by rw [h j (by omega) hj];exact Bool.false_ne_true⟩
theorem A17 {α:Type} (p:α->Bool) (l:List α) (h:∀ j (hj:j<l.length),p l[j]=false):l.findIdx? p=none:=
 List.findIdx?_eq_none_iff.2 fun x hx=>by obtain⟨j,hj,rfl⟩:=List.getElem_of_mem hx;exact h j hj
def B2v (c:UInt8):Bool:=!(65<=c&&c<=90)
theorem A2o (l:List UInt8) (A:Option Addr) (n cap:Nat) (hn:n=l.length) (S:Nat->Prop) (w:World) (hR:Row S w A n cap (bv l)):
  Calls Tryz.prog 259 #[.slice A n cap,.func (.func 219) #[] #[]] w (C8 (.int .i64 (B5A (l.findIdx? B2v))) w):=by
 refine vE Tryz.func259 ?_;subst hn;have hM:l.length<=9223372036854775807:=zo hR.1 hR.2.1;refine⟨Nat,fun i=>[(0,.slice A l.length cap),(1,.func (.func 219) #[] #[]),(7,.int .i64 l.length),(8,.int .i64 i)],
  fun i w'=>i<=l.length/\(∀ j (hj:j<l.length),j<i->B2v l[j]=false)/\Below w.heap.size w w',fun i _=>l.length-i,0,
  ⟨rfl,rfl,rfl,rfl,trivial⟩,⟨zb _,fun j hj h=>absurd h (Nat.not_lt_zero _),Below.refl _ _⟩,?_⟩
 rintro i w' u ⟨hi,he,hb⟩;by_cases hlt:i<l.length
 ·refine dt (by omega) ?_;obtain⟨ad,rfl,hcell⟩:=(hR.below hb).at (A2x l i hlt);refine⟨⟨by omega,by omega⟩,?_⟩;refine⟨_,by rw [Nat.mul_one,zh];exact hcell,?_⟩;have e:l.getD i 0=l[i]:=by rw [List.getD_eq_getElem?_getD,List.getElem?_eq_getElem hlt];rfl
  rw [e];refine B4 (B0i l[i] w') ?_;intro w2 h2;have hb2:=hb.trans (h2.mono hb.size);rcases Bool.eq_false_or_eq_true (B2v l[i]) with hv | hv
  ·refine B0 hv ?_;refine⟨?_,hb2⟩;rw [A16 B2v l i hlt hv he];rfl
  ·refine C3X hv ?_;refine⟨i+1,⟨rfl,rfl,rfl,y5 _ (C3 (by omega)),trivial⟩,⟨hlt,fun j hj h=>?_,hb2⟩,by show l.length-(i+1)<l.length-i;omega⟩;rcases Nat.lt_succ_iff_lt_or_eq.1 h with h | h
   ·exact he j hj h
   ·subst h;exact hv
 ·refine df (by omega) ?_;refine⟨?_,hb⟩;rw [A17 B2v l (fun j hj=>he j hj (by omega))];rfl
theorem A0l (l:List UInt8) (A:Option Addr) (n cap:Nat) (hn:n=l.length) (S:Nat->Prop) (w:World) (hR:Row S w A n cap (bv l)):
  Calls Tryz.prog 218 #[.slice A n cap,.func (.func 219) #[] #[]] w (C8 (.bool (l.any B2v)) w):=by
 refine vE Tryz.func218 ?_;refine B4 (A2o l A n cap hn S w hR) ?_;intro w2 h2;exact⟨B7 (A3m B2v l),h2⟩
theorem A7V (s:ByteArray) (hs:s.size<=9223372036854775807) (w:World):Calls Tryz.prog 174 #[.string s] w (C8 (.bool (A5D s)) w):=by
 refine vE Tryz.func174 ?_;refine A1f no Tryz.underlying9 Tryz.underlying207 Tryz.underlying5 hs ?_;intro g cap w1 hb hR;refine B4 (A0l s.data.toList _ _ cap rfl _ w1 hR) ?_;intro w2 h2;have hb2:=hb.trans (h2.mono hb.size);have e:s.data.toList.any B2v=!(s.data.toList.all (fun c=>65<=c&&c<=90)):=by unfold B2v;rw [List.not_all_eq_any_not]
 rw [e];unfold A5D;rcases Bool.eq_false_or_eq_true (s.data.toList.all fun c=>65<=c&&c<=90) with h | h
 ·rw [h];by_cases h1:(1:Int)<=(s.size:Int)
  ·refine dt h1 ?_;exact⟨B7 (by rw [zy (show 1<=s.size by omega)];simp;omega),hb2⟩
  ·refine df h1 ?_;exact⟨B7 (by rw [zz (show ¬ 1<=s.size by omega)];rfl),hb2⟩
 ·rw [h];exact⟨rfl,hb2⟩
def MapK (b k:Nat) (f:ByteArray->Option Scroll):Kn:=fun S w=>S b/\MapC b k f w
theorem MapK.stab (b k:Nat) (f:ByteArray->Option Scroll):Stab (MapK b k f):=fun S w S' w' h g=>⟨g.1 _ h.1,h.2.eq (g.2 _ h.1)⟩
def chC (room:Int) (b:Nat):List Value:=[.int .i64 room,.map (some b)]
def ChestK (gc b:Nat) (C:Chest):Kn:=fun S w=>S gc/\S b/\gc≠b/\Blk w gc 119 (chC C.room b)/\MapC b C.k C.f w
theorem ChestK.stab (gc b:Nat) (C:Chest):Stab (ChestK gc b C):=fun S w S' w' h g=>⟨g.1 _ h.1,g.1 _ h.2.1,h.2.2.1,h.2.2.2.1.of_eq (g.2 _ h.1),h.2.2.2.2.eq (g.2 _ h.2.1)⟩
theorem y9 {gc b:Nat} {C:Chest}:Stab (ChestK gc b C):=ChestK.stab _ _ _
def RetOb (Sa:Nat->Prop) (w:World) (v:Value) (O:Kn) (en:Ending) (w':World):Prop:=
 en=.returned v/\Turn Sa w w'/\∃ Sn:Nat->Prop,(∀ x,Sn x->(Sa x\/w.heap.size<=x)/\x<w'.heap.size)/\O Sn w'
theorem ChestK.enter {gc b:Nat} {C:Chest} {Sa:Nat->Prop} {w:World} (h:ChestK gc b C Sa w):CtxF no (bare w) (fun x=>x<w.heap.size/\x≠gc) w [(gc,119,chC C.room b)] [] (Sep 0 (Keep w Sa) (MapK b C.k C.f)):=by obtain⟨h1,h2,h3,h4,h5⟩:=h;refine CtxF.enter (fun x hx=>hx.1) ⟨zb _,fun h=>h.2 rfl,h4,(fun x hx=>by cases hx),trivial⟩ trivial ⟨fun x=>x<w.heap.size/\¬ Sa x,fun x=>x=b,fun x hx=>⟨⟨hx.1,fun e=>hx.2 (e▸h1)⟩,fun e=>hx.2 (e▸h2)⟩,fun x hx=>⟨⟨hx▸h5.lt,fun e=>h3 (e▸hx)⟩,zb _⟩,fun x hx hg=>⟨⟨hx,hg⟩,rfl⟩,rfl,h5⟩ (Sep.stab y8 (MapK.stab _ _ _))
theorem ChestK.leave {gc b k:Nat} {room:Int} {f:ByteArray->Option Scroll} {Sa S:Nat->Prop} {w w':World} (hg:Sa gc) (hb:Sa b) (hne:gc≠b) (hc:CtxF no (bare w) S w' [(gc,119,chC room b)] [] (Sep 0 (Keep w Sa) (MapK b k f))) (v:Value):RetOb Sa w v (ChestK gc b ⟨room,f,k⟩) (Ending.returned v) w':=by
 obtain⟨S1,Sb,h1,h2,h3,h4⟩:=hc.row;refine⟨rfl,hc.leave h3,fun x=>x=gc\/x=b,fun x hx=>?_,.inl rfl,.inr rfl,hne,hc.blk 0 rfl,h4.2⟩;rcases hx with rfl | rfl
 ·exact⟨.inl hg,(hc.blk 0 rfl).lt⟩
 ·exact⟨.inl hb,h4.2.lt⟩
theorem _root_.Go.Vc.CtxF.mapc {w0 w w':World} {S:Nat->Prop} {l:List LB} {os:List OR} {R:Kn} {b k k':Nat} {f f':ByteArray->Option Scroll} (hc:CtxF no w0 S w l os (Sep w0.heap.size R (MapK b k f))) (hR:Stab R) (hg:w.grownBy w' (some b)) (hm:MapC b k' f' w'):
  ∃ S',CtxF no w0 S' w' l os (Sep w0.heap.size R (MapK b k' f')):=by
 obtain⟨S1,Sb,h1,h2,h3,h4⟩:=hc.row;refine⟨_,hc.turnO hR h1 h2 h3 (Sn:=fun x=>x=b) ⟨hg.os,hg.tape,hg.output,fun x hx hn=>hg.block x hx (fun e=>hn (by rw [Option.some.inj e];exact h4.1))⟩ (fun x hx=>?_) ⟨rfl,hm⟩ (MapK.stab _ _ _)⟩;have hx:x=b:=hx;subst hx;exact⟨.inl h4.1,hm.lt⟩
theorem _root_.Go.Vc.CtxF.mapOf {w0 w:World} {S:Nat->Prop} {l:List LB} {os:List OR} {R:Kn} {n b k:Nat} {f:ByteArray->Option Scroll} (hc:CtxF no w0 S w l os (Sep n R (MapK b k f))):MapC b k f w:=(hc.row.right (MapK.stab _ _ _)).2
theorem ChestK.now {w0 w:World} {S:Nat->Prop} {l:List LB} {os:List OR} {R:Kn} {n gc b k:Nat} {room:Int} {f:ByteArray->Option Scroll} (hc:CtxF no w0 S w l os (Sep n R (MapK b k f))) (i:Nat) (hi:l[i]?=some (gc,119,chC room b)) (hne:gc≠b):ChestK gc b ⟨room,f,k⟩ (fun x=>x=gc\/x=b) w:=
 ⟨.inl rfl,.inr rfl,hne,hc.blk i hi,hc.mapOf⟩
theorem B2w (g:Nat) (ox oy:Operand) (w:World):(do eqGuard BinOp.eql 26 ox oy (.pointer (some ⟨g,0,none⟩)) (.pointer none);Go.binOp BinOp.eql 26 (.pointer (some ⟨g,0,none⟩)) (.pointer none):Sem Value).run Tryz.prog w=.ok (.bool false) w:=by kernel_rfl
theorem A3n (gc b:Nat) (C:Chest) (x:ByteArray) (hx:x.size<=9223372036854775807) (S:Nat->Prop) (w:World) (hK:ChestK gc b C S w):
  Calls Tryz.prog 175 #[.pointer (some ⟨gc,0,none⟩),.string x] w (C8 (.tuple #[.agg (scC ((C.f x).getD sc0)).toArray,.int .i64 (if (C.f x).isSome then 0 else 6)]) w):=by
 refine vE Tryz.func175 ?_;have hc:=CtxF.start w (fun x=>x=gc\/x=b) (fun x hx=>hx.elim (fun e=>e▸hK.2.2.2.1.lt) (fun e=>e▸hK.2.2.2.2.lt)) (R:=ChestK gc b C) ⟨.inl rfl,.inr rfl,hK.2.2⟩ y9;refine hc.n fun g4 wg4 hg4 hc=>?_;refine⟨.bool false,fun w=>B2w gc _ _ w,?_⟩;refine⟨_,(hc.row.2.2.2.1.cell 1).trans rfl,?_⟩;refine⟨_,_,hc.row.2.2.2.2.look_ok hx,?_⟩;refine hc.n fun g6 wg6 hg6 hc=>?_;refine hc.s 0 rfl fun wS hS hc=>?_;cases e:C.f x with
 | none=>
  rw [e] at hc;refine hc.s 1 rfl fun wS hS hc=>?_;refine hc.a 1 rfl rfl ?_;exact⟨rfl,hc.below⟩
 | some r=>
  rw [e] at hc;refine hc.a 0 rfl rfl ?_;refine hc.s 1 rfl fun wS hS hc=>?_;refine hc.a 1 rfl rfl ?_;exact⟨rfl,hc.below⟩
def O1 (C:Chest) (to s:ByteArray):Chest × Int:=
 if A5D to then
  if C.room<(s.size:Int) then (C,5)
  else (⟨C.room-s.size,A4U C.f to ⟨((C.f to).getD sc0).s++s,((C.f to).getD sc0).pressed,((C.f to).getD sc0).kept⟩,A7U C.f C.k to⟩,0)
 else (C,1)
theorem A5E (gc b:Nat) (C:Chest) (to s:ByteArray) (hto:to.size<=9223372036854775807) (hr : -1000000000000<=C.room/\C.room<=1000000000000) (hs:s.size<=1000000000000) (hl:((C.f to).getD sc0).s.size<=1000000000000) (hkk:C.k<1000000) (Sa:Nat->Prop) (w:World) (hK:ChestK gc b C Sa w):
  Calls Tryz.prog 169 #[.pointer (some ⟨gc,0,none⟩),.string to,.string s] w (RetOb Sa w (.int .i64 (O1 C to s).2) (ChestK gc b (O1 C to s).1)):=by
 obtain⟨q,hq⟩:∃ q,q=O1 C to s:=⟨_,rfl⟩;rw [<-hq];unfold O1 at hq;have hg:=hK.1;have hb:=hK.2.1;have hne:=hK.2.2.1;have hc:=hK.enter;refine vE Tryz.func169 ?_;refine⟨.bool false,fun w=>B2w gc _ _ w,?_⟩;refine hc.q (A7V to hto _) fun wQ hQ hc=>?_;cases hn:A5D to with
 | false=>
  rw [hn] at hq;subst hq;exact ChestK.leave hg hb hne hc _
 | true=>
  rw [hn,y6 rfl] at hq;refine hc.c 0 rfl rfl ?_;by_cases hx:C.room<(s.size:Int)
  ·rw [y6 hx] at hq;subst hq;refine dt hx ?_;exact ChestK.leave hg hb hne hc _
  rw [y7 hx] at hq;refine df hx ?_;refine hc.c 0 rfl rfl ?_;refine⟨_,_,hc.mapOf.look hto,?_⟩;refine hc.n fun g7 wg7 hg7 hc=>?_;refine hc.s 0 rfl fun wS hS hc=>?_;refine hc.c 0 rfl rfl ?_;refine⟨by simp only [ByteArray.size] at *;omega,?_⟩;refine hc.s 0 rfl fun wS hS hc=>?_;have hr:=hc;refine vD (.Q [0,1,2,3,4,5] (.z 6)) (Old _) (Old.start _) ?_;have hk:=hc.old0;have hc:=hc.drew;refine⟨_,fun x hx=>Keeps.cell hx (hr.blk 1 rfl) (hr.blk 1 rfl).lt rfl,?_⟩;refine⟨_,?_,fun x hx=>Keeps.cells hx (hr.blk 0 rfl) (hr.blk 0 rfl).lt,?_⟩
  ·rfl
  obtain⟨wm,hm1,hm2,_,hm3⟩:=hc.mapOf.store hto hkk ⟨((C.f to).getD sc0).s++s,((C.f to).getD sc0).pressed,((C.f to).getD sc0).kept⟩;refine⟨wm,hm1,?_⟩;obtain⟨S',hc⟩:=hc.mapc y8 hm2 hm3;refine hc.c 1 rfl rfl ?_;refine hc.s 1 rfl fun wS hS hc=>?_;rw [show IntKind.i64.wrap (C.room-(s.size:Int))=C.room-s.size from IntWalk.i64_in _ ⟨by omega,by omega⟩] at hc;subst hq;exact ChestK.leave hg hb hne hc.drop _
def A18 (C:Chest) (x:ByteArray):Chest × Int:=
 match C.f x with
 | none=>(C,6)
 | some r=>(⟨C.room,A4U C.f x ⟨r.s,r.s.size,true⟩,A7U C.f C.k x⟩,0)
theorem A5F (gc b:Nat) (C:Chest) (x:ByteArray) (hx:x.size<=9223372036854775807) (hkk:C.k<1000000) (Sa:Nat->Prop) (w:World) (hK:ChestK gc b C Sa w):
  Calls Tryz.prog 178 #[.pointer (some ⟨gc,0,none⟩),.string x] w (RetOb Sa w (.int .i64 (A18 C x).2) (ChestK gc b (A18 C x).1)):=by
 obtain⟨q,hq⟩:∃ q,q=A18 C x:=⟨_,rfl⟩;rw [<-hq];unfold A18 at hq;have hg:=hK.1;have hb:=hK.2.1;have hne:=hK.2.2.1;have hc:=hK.enter;have hh:=A3n gc b C x hx _ _ hK;refine vE Tryz.func178 ?_;cases e:C.f x with
 | none=>
  rw [e] at hq hh;simp only at hq;refine hc.q (hh) fun wQ hQ hc=>?_;refine hc.n fun g5 wg5 hg5 hc=>?_;refine hc.s 0 rfl fun wS hS hc=>?_;subst hq;exact ChestK.leave hg hb hne hc.drop _
 | some r=>
  rw [e] at hq hh;simp only at hq;refine hc.q (hh) fun wQ hQ hc=>?_;refine hc.n fun g5 wg5 hg5 hc=>?_;refine hc.s 0 rfl fun wS hS hc=>?_;have hr:=hc;refine vD (.Q [0,1,2,3,4,5,6,7,8,9,10] (.z 11)) (Old _) (Old.start _) ?_;have hk:=hc.old0;have hc:=hc.drew;refine⟨_,fun x hx=>Keeps.cell hx (hr.blk 1 rfl) (hr.blk 1 rfl).lt rfl,?_⟩;refine⟨_,fun x hx=>Keeps.cell hx (hr.blk 0 rfl) (hr.blk 0 rfl).lt rfl,?_⟩;refine⟨_,fun x hx=>Keeps.cell hx (hr.blk 0 rfl) (hr.blk 0 rfl).lt rfl,?_⟩;obtain⟨wm,hm1,hm2,_,hm3⟩:=hc.mapOf.store hx hkk ⟨r.s,r.s.size,true⟩;refine⟨wm,hm1,?_⟩;obtain⟨S',hc⟩:=hc.mapc y8 hm2 hm3;subst hq;exact ChestK.leave hg hb hne hc.drop _
theorem B2x (gc b:Nat) (C:Chest) (x:ByteArray) (hx:x.size<=9223372036854775807) (S:Nat->Prop) (w:World) (hK:ChestK gc b C S w):
  Calls Tryz.prog 123 #[.pointer (some ⟨gc,0,none⟩),.string x] w (C8 (.tuple #[.string ((C.f x).getD sc0).s,.bool (C.f x).isSome]) w):=by
 have hh:=A3n gc b C x hx _ _ hK;refine vE Tryz.func123 ?_;have hc:=CtxF.start w no (fun _ h=>h.elim) (R:=fun _ _=>True) trivial Stab.true;cases e:C.f x with
 | none=>
  rw [e] at hh;refine hc.q (hh) fun wQ hQ hc=>?_;refine hc.n fun g5 wg5 hg5 hc=>?_;refine hc.s 0 rfl fun wS hS hc=>?_;refine hc.c 0 rfl rfl ?_;exact⟨rfl,hc.below⟩
 | some r=>
  rw [e] at hh;refine hc.q (hh) fun wQ hQ hc=>?_;refine hc.n fun g5 wg5 hg5 hc=>?_;refine hc.s 0 rfl fun wS hS hc=>?_;refine hc.c 0 rfl rfl ?_;exact⟨rfl,hc.below⟩
def A8N (C:Chest) (x:ByteArray) (n:Int):Chest × Int:=
 match C.f x with
 | none=>(C,6)
 | some r=>if n<0\/(r.s.size:Int)<n then (C,4)
  else (⟨C.room+(r.s.size-n),A4U C.f x ⟨r.s.extract 0 n.toNat,if n<r.pressed then n else r.pressed,true⟩,A7U C.f C.k x⟩,0)
theorem A7W (gc b:Nat) (C:Chest) (x:ByteArray) (n:Int) (hx:x.size<=9223372036854775807) (hr : -1000000000000<=C.room/\C.room<=1000000000000) (hl:((C.f x).getD sc0).s.size<=1000000000000) (hkk:C.k<1000000) (Sa:Nat->Prop) (w:World) (hK:ChestK gc b C Sa w):
  Calls Tryz.prog 127 #[.pointer (some ⟨gc,0,none⟩),.string x,.int .i64 n] w (RetOb Sa w (.int .i64 (A8N C x n).2) (ChestK gc b (A8N C x n).1)):=by
 obtain⟨q,hq⟩:∃ q,q=A8N C x n:=⟨_,rfl⟩;rw [<-hq];unfold A8N at hq;have hg:=hK.1;have hb:=hK.2.1;have hne:=hK.2.2.1;have hc:=hK.enter;have hh:=A3n gc b C x hx _ _ hK;refine vE Tryz.func127 ?_;cases e:C.f x with
 | none=>
  rw [e] at hq hh;simp only at hq;refine hc.q (hh) fun wQ hQ hc=>?_;refine hc.n fun g7 wg7 hg7 hc=>?_;refine hc.s 0 rfl fun wS hS hc=>?_;subst hq;exact ChestK.leave hg hb hne hc.drop _
 | some r=>
  rw [e] at hq hh hl;rw [show (some r).getD sc0=r from rfl] at hh;simp only at hq;have hl:r.s.size<=1000000000000:=hl;refine hc.q (hh) fun wQ hQ hc=>?_;refine hc.n fun g7 wg7 hg7 hc=>?_;refine hc.s 0 rfl fun wS hS hc=>?_;by_cases h1:n<0
  ·rw [y6 (.inl h1)] at hq;subst hq;refine dt h1 ?_;exact ChestK.leave hg hb hne hc.drop _
  refine df h1 ?_;refine hc.c 0 rfl rfl ?_;by_cases h2:(r.s.size:Int)<n
  ·rw [y6 (.inr h2)] at hq;subst hq;refine dt h2 ?_;exact ChestK.leave hg hb hne hc.drop _
  rw [y7 (fun h=>h.elim h1 h2)] at hq;refine df h2 ?_;have hw1:IntKind.i64.wrap ((r.s.size:Int)-n)=(r.s.size:Int)-n:=IntWalk.i64_in _ ⟨by omega,by omega⟩;have hw2:IntKind.i64.wrap (C.room+((r.s.size:Int)-n))=C.room+((r.s.size:Int)-n):=IntWalk.i64_in _ ⟨by omega,by omega⟩;refine Drawn.join (α:=Unit) (fun _=>[(0,.pointer (some ⟨gc,0,none⟩)),(1,.string x),(2,.int .i64 n),(7,.pointer (some ⟨g7,0,none⟩))])
   (fun _ wS=>∃ S,CtxF no (bare w) S wS [(g7,121,scC r),(gc,119,chC (C.room+((r.s.size:Int)-n)) b)] [] (Sep 0 (Keep w Sa) (MapK b C.k C.f))) ?_ ?_
  ·refine vD (.Q [0,1,2,4,7] (.n 3 (.n 5 (.Q [6,8,9,10,11] (.n 12 .fin .stop)) .stop) (.n 5 (.Q [6,8] (.n 3 (.Q [9,10,11] (.n 12 .fin .stop)) .stop)) .stop))) (fun _=>True) trivial ?_;have hc:=hc.drew;refine⟨?_,?_⟩
   ·skip
    refine⟨_,hc.cell 1 rfl _ rfl,trivial,?_⟩;refine⟨⟨_,hc.cell 0 rfl _ rfl,trivial,?_⟩,trivial⟩;refine⟨hc.s' 1 rfl fun wS hS hc=>?_,trivial⟩;rw [hw1,hw2] at hc;exact⟨(),⟨rfl,rfl,rfl,rfl,trivial⟩,_,hc⟩
   refine⟨⟨_,hc.cell 0 rfl _ rfl,trivial,?_⟩,trivial⟩;refine⟨⟨_,hc.cell 1 rfl _ rfl,trivial,?_⟩,trivial⟩;refine⟨hc.s' 1 rfl fun wS hS hc=>?_,trivial⟩;rw [hw1,hw2] at hc;exact⟨(),⟨rfl,rfl,rfl,rfl,trivial⟩,_,hc⟩
  clear hc;rintro⟨⟩ u wS ⟨S,hc⟩;have hr:=hc;refine vD (.Q [0,1,2,3,4,5,6,7,8,9,10,11,12,13] (.z 14)) (Old _) (Old.start _) ?_;have hk:=hc.old0;have hc:=hc.drew;refine⟨_,fun x hx=>Keeps.cell hx (hr.blk 1 rfl) (hr.blk 1 rfl).lt rfl,?_⟩;refine⟨_,fun x hx=>Keeps.cell hx (hr.blk 0 rfl) (hr.blk 0 rfl).lt rfl,?_⟩;refine⟨⟨by omega,by omega,by omega⟩,?_⟩;refine⟨_,fun x hx=>Keeps.cell hx (hr.blk 0 rfl) (hr.blk 0 rfl).lt rfl,?_⟩;obtain⟨wm,hm1,hm2,_,hm3⟩:=hc.mapOf.store hx hkk ⟨r.s.extract 0 n.toNat,if n<r.pressed then n else r.pressed,true⟩;refine⟨wm,hm1,?_⟩;obtain⟨S',hc⟩:=hc.mapc y8 hm2 hm3;subst hq;exact ChestK.leave hg hb hne hc.drop _
def A3A (C:Chest) (x to:ByteArray):Chest × Int:=
 if A5D to then match C.f x with
  | none=>(C,6)
  | some r=>if x=to then (C,0)
   else (⟨C.room+((C.f to).getD sc0).s.size,A4U (B6z C.f x) to ⟨r.s,r.pressed,true⟩,A7U (B6z C.f x) (B6S C.f C.k x) to⟩,0)
 else (C,1)
theorem B5P (f:ByteArray->Option Scroll) (k:Nat) (x:ByteArray):B6S f k x<=k:=by unfold B6S;split<;>omega
theorem B2y (gc b:Nat) (C:Chest) (x to:ByteArray) (hx:x.size<=9223372036854775807) (hto:to.size<=9223372036854775807) (hr : -1000000000000<=C.room/\C.room<=1000000000000) (hl:((C.f to).getD sc0).s.size<=1000000000000) (hkk:C.k<1000000) (Sa:Nat->Prop) (w:World) (hK:ChestK gc b C Sa w):
  Calls Tryz.prog 122 #[.pointer (some ⟨gc,0,none⟩),.string x,.string to] w (RetOb Sa w (.int .i64 (A3A C x to).2) (ChestK gc b (A3A C x to).1)):=by
 obtain⟨q,hq⟩:∃ q,q=A3A C x to:=⟨_,rfl⟩;rw [<-hq];unfold A3A at hq;have hg:=hK.1;have hb:=hK.2.1;have hne:=hK.2.2.1;have hc:=hK.enter;refine vE Tryz.func122 ?_;refine⟨.bool false,fun w=>B2w gc _ _ w,?_⟩;refine hc.q (A7V to hto _) fun wQ hQ hc=>?_;cases hn:A5D to with
 | false=>
  rw [hn] at hq;subst hq;exact ChestK.leave hg hb hne hc _
 | true=>
  rw [hn,y6 rfl] at hq;have hh:=A3n gc b C x hx _ _ (ChestK.now hc 0 rfl hne);cases e:C.f x with
  | none=>
   rw [e] at hq hh;simp only at hq;refine hc.q (hh) fun wQ hQ hc=>?_;refine hc.n fun g7 wg7 hg7 hc=>?_;refine hc.s 0 rfl fun wS hS hc=>?_;subst hq;exact ChestK.leave hg hb hne hc.drop _
  | some r=>
   rw [e] at hq hh;rw [show (some r).getD sc0=r from rfl] at hh;simp only at hq;refine hc.q (hh) fun wQ hQ hc=>?_;refine hc.n fun g7 wg7 hg7 hc=>?_;refine hc.s 0 rfl fun wS hS hc=>?_;by_cases h1:x=to
   ·rw [y6 h1] at hq;subst hq;refine B0 (D2.2 h1) ?_;exact ChestK.leave hg hb hne hc.drop _
   rw [y7 h1] at hq;refine C3X (by rw [<-Bool.not_eq_true,D2];exact h1) ?_;have hw1:IntKind.i64.wrap (C.room+(((C.f to).getD sc0).s.size:Int))=C.room+((C.f to).getD sc0).s.size:=IntWalk.i64_in _ ⟨by omega,by omega⟩;refine Drawn.join (α:=Unit) (fun _=>[(0,.pointer (some ⟨gc,0,none⟩)),(1,.string x),(2,.string to),(7,.pointer (some ⟨g7,0,none⟩))])
    (fun _ wS=>∃ S,CtxF no (bare w) S wS [(g7,121,scC r),(gc,119,chC (C.room+((C.f to).getD sc0).s.size) b)] [] (Sep 0 (Keep w Sa) (MapK b C.k C.f))) ?_ ?_
   ·refine vD (.Q [0,1,2,4,5,6,8] (.n 3 (.n 7 (.n 9 (.Q [10,11,12,13,14] (.n 15 .fin .stop)) .stop) .stop) (.n 7 (.n 3 (.n 9 (.Q [10,11,12,13,14] (.n 15 .fin .stop)) .stop) (.n 9 (.Q [10,11] (.n 3 (.Q [12,13,14] (.n 15 .fin .stop)) .stop)) .stop)) .stop))) (fun _=>True) trivial ?_;have hc:=hc.drew;refine⟨?_,?_⟩
    ·skip
     refine⟨_,hc.cell 1 rfl _ rfl,trivial,?_⟩;refine⟨⟨_,hc.cell 1 rfl _ rfl,trivial,?_⟩,trivial⟩;refine⟨⟨_,_,hc.mapOf.look hto,trivial,?_⟩,trivial⟩;refine⟨hc.s' 1 rfl fun wS hS hc=>?_,trivial⟩;rw [hw1] at hc;exact⟨(),⟨rfl,rfl,rfl,rfl,trivial⟩,_,hc⟩
    refine⟨⟨_,hc.cell 1 rfl _ rfl,trivial,?_⟩,trivial⟩;refine⟨?_,?_⟩
    ·skip
     refine⟨_,hc.cell 1 rfl _ rfl,trivial,?_⟩;refine⟨⟨_,_,hc.mapOf.look hto,trivial,?_⟩,trivial⟩;refine⟨hc.s' 1 rfl fun wS hS hc=>?_,trivial⟩;rw [hw1] at hc;exact⟨(),⟨rfl,rfl,rfl,rfl,trivial⟩,_,hc⟩
    refine⟨⟨_,_,hc.mapOf.look hto,trivial,?_⟩,trivial⟩;refine⟨⟨_,hc.cell 1 rfl _ rfl,trivial,?_⟩,trivial⟩;refine⟨hc.s' 1 rfl fun wS hS hc=>?_,trivial⟩;rw [hw1] at hc;exact⟨(),⟨rfl,rfl,rfl,rfl,trivial⟩,_,hc⟩
   clear hc;rintro⟨⟩ u wS ⟨S,hc⟩;refine hc.c 1 rfl rfl ?_;obtain⟨wm,hm1,hm2,_,hm3⟩:=hc.mapOf.drop hx 0 _;refine⟨_,wm,hm1,?_⟩;obtain⟨S',hc⟩:=hc.mapc y8 hm2 hm3;have hr:=hc;refine vD (.Q [0,1,2,3,4,5,6,7,8,9] (.z 10)) (Old _) (Old.start _) ?_;have hk:=hc.old0;have hc:=hc.drew;refine⟨_,fun x hx=>Keeps.cell hx (hr.blk 1 rfl) (hr.blk 1 rfl).lt rfl,?_⟩;refine⟨_,fun x hx=>Keeps.cell hx (hr.blk 0 rfl) (hr.blk 0 rfl).lt rfl,?_⟩;refine⟨_,fun x hx=>Keeps.cell hx (hr.blk 0 rfl) (hr.blk 0 rfl).lt rfl,?_⟩;obtain⟨wn,hn1,hn2,_,hn3⟩:=hc.mapOf.store hto (Nat.lt_of_le_of_lt (B5P _ _ _) hkk) ⟨r.s,r.pressed,true⟩;refine⟨wn,hn1,?_⟩;obtain⟨S'',hc⟩:=hc.mapc y8 hn2 hn3;subst hq;exact ChestK.leave hg hb hne hc.drop _
def B8H (n:Int):Chest:=⟨if (1048576:Int)<(if 0 > n then 0 else n) then 1048576 else (if 0 > n then 0 else n),fun _=>none,0⟩
theorem B5Q (n:Int) (w:World):Calls Tryz.prog 45 #[.int .i64 n] w (fun en w'=>∃ gc b,en=.returned (.pointer (some ⟨gc,0,none⟩))/\Below w.heap.size w w'/\ChestK gc b (B8H n) (ext no w w') w'):=by refine vE Tryz.func45 ?_;have hc:=CtxF.start w no (fun _ h=>h.elim) (R:=fun _ _=>True) trivial Stab.true;refine⟨_,_,run_makeMap _ _,?_⟩;have hb:Below w.heap.size w (w.alloc (.map #[] 0)):=(Below.refl _ _).alloc (zc _) _;have hs:(w.alloc (.map #[] 0)).heap.size=w.heap.size+1:=Array.size_push ..;intro g w1 h1;have hg:g=w.heap.size+1:=h1.1.trans hs;have hl:=h1.blk.lt;exact⟨g,w.heap.size,rfl,hb.trans (h1.below.mono (by omega)),.inr ⟨by omega,hl⟩,.inr ⟨zc _,by omega⟩,by omega,h1.blk,(MapC.made w).eq (h1.below.block _ (by omega))⟩
def B0j (s:Scroll) (n:Int):Int:=if 0<n then s.pressed+n.tmod ((s.s.size:Int)-s.pressed+1) else s.pressed
def B0k (C:Chest) (x:ByteArray) (s:Scroll) (n:Int):Chest:=
 ⟨C.room+((s.s.size:Int)-B0j s n),if 0<B0j s n\/s.kept=true then A4U (fun _=>none) x ⟨s.s.extract 0 (B0j s n).toNat,B0j s n,true⟩ else fun _=>none,if 0<B0j s n\/s.kept=true then 1 else 0⟩
def bA:ByteArray:=⟨#[65]⟩
def bB:ByteArray:=⟨#[66]⟩
def c3f (x:ByteArray) (s:Scroll):ByteArray->Option Scroll:=A4U (fun _=>none) x s
def s31:Scroll:=⟨⟨#[]⟩++⟨#[120,121,122]⟩,0,false⟩
def c31:Chest:=⟨47,c3f bA s31,1⟩
def c32:Chest:=⟨47,A4U c31.f bA ⟨s31.s,s31.s.size,true⟩,1⟩
def s33:Scroll:=⟨s31.s.extract 0 2,2,true⟩
def c33:Chest:=⟨48,A4U c32.f bA s33,1⟩
def c34:Chest:=⟨48,A4U (B6z c33.f bA) bB s33,1⟩
theorem t1:((B0k c31 bA s31 2).f bA).getD sc0=⟨⟨#[120,121]⟩,2,true⟩/\((B0k c31 bA s31 2).f bA).isSome=true:=⟨by kernel_rfl,by kernel_rfl⟩
theorem t2:((B0k c31 bA s31 0).f bA).isSome=false:=by kernel_rfl
theorem t3:((B0k c34 bB s33 (-1)).f bB).getD sc0=⟨⟨#[120,121]⟩,2,true⟩/\((B0k c34 bB s33 (-1)).f bB).isSome=true:=⟨by kernel_rfl,by kernel_rfl⟩
def A2p (s:List UInt8):List UInt8:=X5 (zOn (0,1) s)
def J2 (s:ByteArray):List UInt8:=if (400000:Int)<(s.size:Int) then [] else A2p s.data.toList++A4T (vStr s)
theorem B5R (v:V):(A4T v).length<=(J1 v).length:=by
 unfold A4T;split
 ·exact zc _
 ·exact zb _
theorem A7X (n:Int):(A6z n).length=4:=by simp [A6z]
theorem Q2 (s:List UInt8):(A2p s).length=8:=by unfold A2p X5;rw [z6,A7X,A7X]
theorem A3o (s:ByteArray) (hs:s.size<=9223372036854775807) (w:World) (hw:Env w):Calls Tryz.prog 124 #[.string s] w (C8 (.string ⟨(J2 s).toArray⟩) w):=by
 refine vE Tryz.func124 ?_;unfold J2;by_cases h:(400000:Int)<(s.size:Int)
 ·rw [y6 h];refine dt h ?_;exact⟨rfl,Below.refl _ _⟩
 rw [y7 h];refine df h ?_;refine A1f no Tryz.underlying9 Tryz.underlying207 Tryz.underlying5 hs ?_;intro g cap w1 h1 hR;refine B4 (A1j (T3 s).symm hs _ hR) ?_;intro w2 h2;refine B4 (A1k (A6y _ _ ⟨by decide,by decide⟩) _) ?_;intro w3 h3;have h12:=h1.trans (h2.mono h1.size);have h13:=h12.trans (h3.mono h12.size);refine B4 (A69 (vStr s) ⟨⟨by decide,by decide⟩,trivial⟩ (zo (M2 s (by omega)) (by omega)) _ _ _ _ _ _ no _ (RepC.leaf _ _ _ _ _) (hw.below h13).tab) ?_;intro w4 h4;have h14:=h13.trans (h4.mono h13.size);have h5:=B5R (vStr s);have h6:=M2 s (by omega);have h7:=Q2 s.data.toList;refine⟨?_,?_⟩
 ·show (A2p s.data.toList).toArray.size+(A4T (vStr s)).toArray.size<=_;rw [List.size_toArray,List.size_toArray];omega
 ·refine⟨?_,h14⟩;rw [<-U6];rfl
def A19 (l:List UInt8):Bool:=(Y7 (l.take 8++List.replicate (8-l.length) 48)).2
theorem B2z (n:Nat) (h:n<=8):((⟨#[48,48,48,48,48,48,48,48]⟩:ByteArray).extract n 8).data.toList=List.replicate (8-n) 48:=by
 have:∀ n:Fin 9,((⟨#[48,48,48,48,48,48,48,48]⟩:ByteArray).extract n.val 8).data.toList=List.replicate (8-n.val) 48:=by decide +kernel
 exact this ⟨n,by omega⟩
theorem B9H (s:ByteArray) (m:Nat) (hm:m=min 8 s.size):(s.extract 0 m++(⟨#[48,48,48,48,48,48,48,48]⟩:ByteArray).extract m 8).data.toList=s.data.toList.take 8++List.replicate (8-s.data.toList.length) 48:=by
 have hl:s.data.toList.length=s.size:=T3 s;have e0:s.extract 0 m=⟨((s.data.toList.drop 0).take (m-0)).toArray⟩:=P8 s.data.toList 0 m;rw [ByteArray.data_append,Array.toList_append,B2z m (by omega),e0,hl];show (s.data.toList.drop 0).take (m-0)++_=_;rw [List.drop_zero,Nat.sub_zero,show 8-m=8-s.size from by omega];congr 1;rcases zl s.size 8 with h | h
 ·rw [List.take_of_length_le (by omega),List.take_of_length_le (by omega)]
 ·rw [show m=8 from by omega]
theorem A8O (s:ByteArray) (hs:s.size<=1000000000000) (w:World):Calls Tryz.prog 179 #[.string s] w (C8 (.bool (A19 s.data.toList)) w):=by
 obtain⟨m,hm,hm8⟩:∃ m:Nat,(if (8:Int)<(s.size:Int) then 8 else (s.size:Int))=(m:Int)/\m=min 8 s.size:=⟨min 8 s.size,by split<;>omega,rfl⟩;have hsz:(s.extract ((0:Nat):Int).toNat (if (8:Int)<(s.size:Int) then 8 else (s.size:Int)).toNat).size=m:=by rw [hm,ByteArray.size_extract];omega
 have hg:=fun w=>A1m (s.extract 0 m++(⟨#[48,48,48,48,48,48,48,48]⟩:ByteArray).extract m 8) w;rw [B9H s m hm8] at hg;have e1:s.extract 0 m=s.extract ((0:Nat):Int).toNat (if (8:Int)<(s.size:Int) then 8 else (s.size:Int)).toNat:=by rw [hm];rfl
 rw [e1] at hg;have e2:((s.extract ((0:Nat):Int).toNat (if (8:Int)<(s.size:Int) then 8 else (s.size:Int)).toNat).size:Int).toNat=m:=by rw [hsz];exact zh m
 rw [<-e2] at hg;refine vE Tryz.func179 ?_;refine⟨⟨Int.le_refl _,by rw [hm];omega,by rw [hm];omega⟩,?_⟩;refine⟨⟨Int.natCast_nonneg _,by rw [hsz];show (m:Int)<=8;omega,Int.le_refl _⟩,?_⟩;have h8:(⟨#[48,48,48,48,48,48,48,48]⟩:ByteArray).size=8:=rfl;refine⟨by simp only [ByteArray.size_extract,h8];omega,?_⟩;refine B4 (hg _) ?_;intro w1 h1;exact⟨rfl,h1⟩
end Go.Proofs.YtefdfaeieekioaaGreatDoor
section
namespace Go.Vc
open Go Go.RowKit
open Go.Proofs.YtefdfaeieekioaaGreatDoor (no RetOb Env)
def ObjK (g T:Nat) (cs:List Value) (R O:Kn):Kn:=fun S w=>S g/\Blk w g T cs/\Sep 0 R O (fun x=>S x/\x≠g) w
theorem ObjK.stab {g T:Nat} {cs:List Value} {R O:Kn} (hR:Stab R) (hO:Stab O):Stab (ObjK g T cs R O):=fun S w S' w' h f=>
 ⟨f.1 _ h.1,h.2.1.of_eq (f.2 _ h.1),Sep.stab hR hO _ _ _ _ h.2.2 ⟨fun x hx=>⟨f.1 x hx.1,hx.2⟩,fun x hx=>f.2 x hx.1⟩⟩
theorem ObjK.right {g T:Nat} {cs:List Value} {R O:Kn} (hO:Stab O) {S:Nat->Prop} {w:World} (h:ObjK g T cs R O S w):O S w:=
 hO _ _ _ _ (h.2.2.right hO) ⟨fun x hx=>hx.1,fun _ _=>rfl⟩
theorem ObjK.left {g T:Nat} {cs:List Value} {R O:Kn} (hR:Stab R) {S:Nat->Prop} {w:World} (h:ObjK g T cs R O S w):R S w:=
 hR _ _ _ _ (h.2.2.left hR) ⟨fun x hx=>hx.1,fun _ _=>rfl⟩
section
variable {w0 w w':World} {S Sa:Nat->Prop} {l:List LB} {os:List OR} {R O K X Y:Kn} {g T n0:Nat} {cs cs':List Value}
theorem ObjK.enter (h:ObjK g T cs R O Sa w) (hlt:∀ x,Sa x->x<w.heap.size) (hR:Stab R) (hO:Stab O):
  CtxF no (bare w) (fun x=>x<w.heap.size/\x≠g) w [(g,T,cs)] [] (Sep 0 (Sep 0 (Keep w Sa) R) O):=by
 obtain⟨h1,h2,Sr,So,k1,k2,k3,k4⟩:=h;refine CtxF.enter (fun x hx=>hx.1) ⟨zb _,fun h=>h.2 rfl,h2,(fun x hx=>by cases hx),trivial⟩ trivial ⟨fun x=>x<w.heap.size/\¬ So x/\x≠g,So,fun x hx=>⟨⟨hx.1,hx.2.2⟩,hx.2.1⟩,fun x hx=>⟨⟨hlt x (k2 x hx).1.1,(k2 x hx).1.2⟩,zb _⟩,⟨fun x=>x<w.heap.size/\¬ Sa x,Sr,fun x hx=>⟨⟨hx.1,fun e=>hx.2 (k2 x e).1.1,fun e=>hx.2 (e▸h1)⟩,fun e=>hx.2 (k1 x e).1.1⟩,fun x hx=>⟨⟨hlt x (k1 x hx).1.1,(k1 x hx).2,(k1 x hx).1.2⟩,zb _⟩,fun x hx hg=>⟨⟨hx,hg⟩,rfl⟩,k3⟩,k4⟩ (Sep.stab (Sep.stab y8 hR) hO)
theorem ObjK.leave (hc:CtxF no (bare w) S w' [(g,T,cs')] [] (Sep 0 (Sep 0 (Keep w Sa) R) O)) (v:Value):RetOb Sa w v (ObjK g T cs' R O) (Ending.returned v) w':=by
 obtain⟨S1,So,h1,h2,⟨Sk,Sr,k1,k2,k3,k4⟩,h4⟩:=hc.row;have hSg:¬ S g:=hc.ctx.locs.2.1;have hr:∀ x,Sr x->S x:=fun x hx=>(h1 x (k2 x hx).1).1;refine⟨rfl,hc.leave k3,fun x=>x=g\/Sr x\/So x,fun x hx=>?_,.inl rfl,hc.blk 0 rfl,Sr,So,fun x hx=>⟨⟨.inr (.inl hx),fun e=>hSg (e▸hr x hx)⟩,(h1 x (k2 x hx).1).2⟩,fun x hx=>⟨⟨.inr (.inr hx),fun e=>hSg (e▸(h2 x hx).1)⟩,zb _⟩,k4,h4⟩;have hout:(Sk x->False)->Sa x\/w.heap.size<=x:=fun hn=>by
  rcases zl x w.heap.size with hl | hl
  ·rcases Classical.em (Sa x) with hs | hs
   ·exact .inl hs
   ·exact (hn (k3 x hl hs).1).elim
  ·exact .inr hl
 rcases hx with rfl | hx | hx
 ·exact⟨hout fun hk=>hSg (h1 _ (k1 _ hk).1).1,(hc.blk 0 rfl).lt⟩
 ·exact⟨hout fun hk=>(k1 x hk).2 hx,hc.ctx.lt x (hr x hx)⟩
 ·exact⟨hout fun hk=>(h1 x (k1 x hk).1).2 hx,hc.ctx.lt x (h2 x hx).1⟩
theorem CtxF.again {w1:World} (hc:CtxF no (bare w) S w1 [(g,T,cs)] [] (Sep 0 (Sep 0 (Keep w Sa) R) O)):
  ∃ Sm:Nat->Prop,(∀ x,Sm x->x<w1.heap.size)/\(∀ x,x<w.heap.size->¬ Sa x->¬ Sm x/\w1.heap[x]?=w.heap[x]?)/\ObjK g T cs R O Sm w1/\∀ {w2:World} {cs':List Value} {R' O':Kn} {Sn:Nat->Prop},Turn Sm w1 w2->(∀ x,Sn x->(Sm x\/w1.heap.size<=x)/\x<w2.heap.size)->ObjK g T cs' R' O' Sn w2->Stab R'->Stab O'->
   ∃ S2,CtxF no (bare w) S2 w2 [(g,T,cs')] [] (Sep 0 (Sep 0 (Keep w Sa) R') O'):=by
 obtain⟨S1,So,h1,h2,⟨Sk,Sr,k1,k2,k3,k4⟩,h4⟩:=hc.row;have hSg:¬ S g:=hc.ctx.locs.2.1;have hr:∀ x,Sr x->S x:=fun x hx=>(h1 x (k2 x hx).1).1;have hk:∀ x,Sk x->S x/\¬ Sr x/\¬ So x/\x≠g:=fun x hx=>⟨(h1 x (k1 x hx).1).1,(k1 x hx).2,(h1 x (k1 x hx).1).2,fun e=>hSg (e▸(h1 x (k1 x hx).1).1)⟩;refine⟨fun x=>x=g\/Sr x\/So x,fun x hx=>?_,fun x hx hn=>?_,⟨.inl rfl,hc.blk 0 rfl,Sr,So,fun x hx=>⟨⟨.inr (.inl hx),fun e=>hSg (e▸hr x hx)⟩,(h1 x (k2 x hx).1).2⟩,fun x hx=>⟨⟨.inr (.inr hx),fun e=>hSg (e▸(h2 x hx).1)⟩,zb _⟩,k4,h4⟩,?_⟩
 ·rcases hx with rfl | hx | hx
  ·exact (hc.blk 0 rfl).lt
  ·exact hc.ctx.lt x (hr x hx)
  ·exact hc.ctx.lt x (h2 x hx).1
 ·obtain⟨i1,i2⟩:=k3 x hx hn;obtain⟨a,b,c,d⟩:=hk x i1;exact⟨fun e=>e.elim d (fun e=>e.elim b c),i2⟩
 ·intro w2 cs' R' O' Sn hT hSn hO sR sO;obtain⟨j1,j2,Sr',So',i1,i2,i3,i4⟩:=hO;have hnk:∀ x,Sk x->¬ Sn x:=fun x hx hn=>by
   obtain⟨a,b,c,d⟩:=hk x hx;have hl:=hc.ctx.lt x a;rcases (hSn x hn).1 with (e | e | e) | e
   ·exact d e
   ·exact b e
   ·exact c e
   ·omega
  have hkeep:∀ x,Sk x->w2.heap[x]?=w1.heap[x]?:=fun x hx=>by obtain⟨a,b,c,d⟩:=hk x hx;exact hT.block x (hc.ctx.lt x a) (fun e=>e.elim d (fun e=>e.elim b c))
  have hklt:∀ x,Sk x->x<w2.heap.size:=fun x hx=>heap_lt (hkeep x hx) (hc.ctx.lt x (hk x hx).1);refine⟨fun x=>x<w2.heap.size/\x≠g,⟨⟨⟨hT.os.trans hc.below.os,hT.tape.trans hc.below.tape,hT.output.trans hc.below.output,zb _,fun k hk=>absurd hk (Nat.not_lt_zero _)⟩,fun _ h=>h.elim,fun b _=>.inr (zb _),fun x hx=>hx.1,⟨zb _,fun h=>h.2 rfl,j2,(fun x hx=>by cases hx),trivial⟩⟩,trivial,?_,Sep.stab (Sep.stab y8 sR) sO⟩⟩;refine⟨fun x=>x<w2.heap.size/\¬ So' x/\x≠g,So',fun x hx=>⟨⟨hx.1,hx.2.2⟩,hx.2.1⟩,fun x hx=>⟨⟨(hSn x (i2 x hx).1.1).2,(i2 x hx).1.2⟩,zb _⟩,⟨Sk,Sr',fun x hx=>⟨⟨hklt x hx,fun e=>hnk x hx (i2 x e).1.1,(hk x hx).2.2.2⟩,fun e=>hnk x hx (i1 x e).1.1⟩,fun x hx=>⟨⟨(hSn x (i1 x hx).1.1).2,(i1 x hx).2,(i1 x hx).1.2⟩,zb _⟩,Keep.stab _ _ _ _ _ _ k3 ⟨fun _ h=>h,hkeep⟩,i3⟩,i4⟩
theorem CtxF.mid (hc:CtxF no w0 S w l os (Sep w0.heap.size (Sep n0 K R) O)) (hn:n0<=w0.heap.size) (hK:Stab K) (hR:Stab R) (hO:Stab O):
  ∃ Sr:Nat->Prop,R Sr w/\(∀ x,Sr x->S x)/\∀ {w':World} {l':List LB} {R':Kn},CtxF no w0 (ext S w w') w' l' os R'/\Fut S w (ext S w w') w'->∀ {X:Kn},Stab X->X (ext Sr w w') w'->CtxF no w0 (ext S w w') w' l' os (Sep w0.heap.size (Sep n0 K (fun S w=>R S w/\X S w)) O):=by
 obtain⟨S1,So,h1,h2,⟨Sk,Sr,k1,k2,k3,k4⟩,h4⟩:=hc.row;have hlt:∀ x,S x->x<w.heap.size:=hc.ctx.lt;have hrS:∀ x,Sr x->S x:=fun x hx=>(h1 x (k2 x hx).1).1;refine⟨Sr,k4,hrS,fun {w' l' R'} hh {X} hX hx=>?_⟩;obtain⟨hc',hf⟩:=hh;have hnew:∀ x,w.heap.size<=x->S x->False:=fun x h1 h2=>absurd (hlt x h2) (by omega);refine hc'.now (fun _=>⟨ext S1 w w',So,fun x hx=>?_,fun x hx=>⟨.inl (h2 x hx).1,(h2 x hx).2⟩,⟨Sk,ext Sr w w',fun x hx=>⟨.inl (k1 x hx).1,fun h=>?_⟩,fun x hx=>⟨?_,?_⟩,?_,?_,hx⟩,?_⟩) (Sep.stab (Sep.stab hK (hR.and hX)) hO)
 ·rcases hx with hx | hx
  ·exact⟨.inl (h1 x hx).1,(h1 x hx).2⟩
  ·exact⟨.inr hx,fun h=>hnew x hx.1 (h2 x h).1⟩
 ·rcases h with h | h
  ·exact (k1 x hx).2 h
  ·exact hnew x h.1 (h1 x (k1 x hx).1).1
 ·rcases hx with hx | hx
  ·exact .inl (k2 x hx).1
  ·exact .inr hx
 ·rcases hx with hx | hx
  ·exact (k2 x hx).2
  ·exact zo hn (zo hc.ctx.below.size hx.1)
 ·exact hK _ _ _ _ k3 ⟨fun _ h=>h,fun x hx=>hf.2 x (h1 x (k1 x hx).1).1⟩
 ·exact hR _ _ _ _ k4 ⟨fun _ h=>.inl h,fun x hx=>hf.2 x (hrS x hx)⟩
 ·exact hO _ _ _ _ h4 ⟨fun _ h=>h,fun x hx=>hf.2 x (h2 x hx).1⟩
theorem CtxF.turnL (hc:CtxF no w0 S w l os R) (k:Nat) (hk:l[k]?=some (g,T,cs)) (hT:Turn (fun x=>x=g) w w') (hB:Blk w' g T cs'):
  CtxF no w0 (ext S w w') w' (F4 l k cs') os R/\Fut S w (ext S w w') w':=by
 have hgl:g<w.heap.size:=(hc.blk k hk).lt;have hsz:w.heap.size<=w'.heap.size:=by
  by_cases e:g=w.heap.size-1
  ·have:=hB.lt;omega
  ·have:=heap_lt (hT.block (w.heap.size-1) (by omega) (fun h=>e h.symm)) (by omega);omega
 have hg:w.grownBy w' (some g):=⟨hT.os,hT.tape,hT.output,hsz,fun x hx hn=>hT.block x hx (fun e=>hn (by rw [e]))⟩;obtain⟨h1,h2⟩:=hc.ctx.turned k hk hg hB;have hlow:∀ x∈F4 l k cs',x.1<w.heap.size:=fun x hx=>by obtain⟨y,hy,e⟩:=J4 hx;rw [<-e];exact hc.ctx.locs.lt y hy
 have hf:Fut S w (ext S w w') w':=⟨fun x hx=>.inl hx,h2.2⟩;refine⟨⟨⟨h1.below,fun _ h=>h.elim,fun x hx=>?_,fun x hx=>?_,h1.locs.mono (fun _ _=>rfl) (fun x hx hs=>?_)⟩,hc.own.step fun o ho a ha=>?_,hc.stab _ _ _ _ hc.row hf,hc.stab⟩,hf⟩
 ·rcases hx with hx | hx
  ·exact h1.new x hx
  ·exact .inr (zo hc.ctx.below.size hx.1)
 ·rcases hx with hx | hx
  ·exact h1.lt x hx
  ·exact hx.2
 ·rcases hs with hs | hs
  ·exact hs
  ·have:=hlow x hx;omega
 ·have hO:=hc.own.mem o ho;refine⟨hT.block _ (hO.lt ha).2 (fun e=>(hO.out a ha).2 _ (List.mem_of_getElem? hk) e.symm),fun hs=>?_,fun x hx=>?_⟩
  ·rcases hs with hs | hs
   ·exact (hO.out a ha).1 hs
   ·have:=(hO.lt ha).2;omega
  ·obtain⟨y,hy,e⟩:=J4 hx;rw [<-e];exact (hO.out a ha).2 y hy
end
def isG (x:Nat):Prop:=Go.Proofs.Tryz.prog.globalNamed "internal/strconv.uint64pow10"=some x\/Go.Proofs.Tryz.prog.globalNamed "strconv.ErrSyntax"=some x\/Go.Proofs.Tryz.prog.globalNamed "strconv.ErrRange"=some x
theorem B0l {w:World} {n:String} {v:Array Value} (h:w.var? Go.Proofs.Tryz.prog n=some v) {x:Nat} (hx:Go.Proofs.Tryz.prog.globalNamed n=some x):x<w.heap.size:=by
 unfold World.var? at h;rw [hx,Option.bind_some] at h;rcases zl x w.heap.size with hl | hl
 ·exact hl
 ·rw [Array.getElem?_eq_none hl] at h;cases h
theorem B0m {w w':World} {n:String} {v:Array Value} (h:w.var? Go.Proofs.Tryz.prog n=some v) (hk:∀ x,Go.Proofs.Tryz.prog.globalNamed n=some x->w'.heap[x]?=w.heap[x]?):w'.var? Go.Proofs.Tryz.prog n=some v:=by
 unfold World.var? at*;cases hg:Go.Proofs.Tryz.prog.globalNamed n with
 | none=>simp [hg] at h
 | some g=>
  simp only [hg,Option.bind_some] at h ⊢;rw [hk g hg];exact h
theorem _root_.Go.Proofs.YtefdfaeieekioaaGreatDoor.Env.lt {w:World} (h:Env w) (x:Nat) (hx:isG x):x<w.heap.size:=by
 rcases hx with hx | hx | hx
 ·exact B0l h.tab hx
 ·obtain⟨a,b,c⟩:=h.syn;exact B0l c hx
 ·obtain⟨a,b,c⟩:=h.rng;exact B0l c hx
theorem _root_.Go.Proofs.YtefdfaeieekioaaGreatDoor.Env.of {w w':World} (h:Env w) (hk:∀ x,isG x->w'.heap[x]?=w.heap[x]?):Env w':=by obtain⟨a1,b1,c1⟩:=h.syn;obtain⟨a2,b2,c2⟩:=h.rng;exact⟨B0m h.tab fun x hx=>hk x (.inl hx),⟨a1,b1,B0m c1 fun x hx=>hk x (.inr (.inl hx))⟩,⟨a2,b2,B0m c2 fun x hx=>hk x (.inr (.inr hx))⟩⟩
def EnvFree (G:Nat->Prop) (w:World):Prop:=Env w/\∀ x,isG x->¬ G x
theorem _root_.Go.Proofs.YtefdfaeieekioaaGreatDoor.Env.free {w0 w:World} {G:Nat->Prop} {X:Nat->Prop} (h:Env w0) (hb:Below w0.heap.size w0 w) (hG:∀ x,G x->X x/\w0.heap.size<=x):EnvFree G w:=
 ⟨h.below hb,fun x hx hg=>absurd (h.lt x hx) (Nat.not_lt.2 (hG x hg).2)⟩
theorem EnvFree.kept {G G':Nat->Prop} {w w':World} (h:EnvFree G w) (hk:∀ x,x<w.heap.size->¬ G x->¬ G' x/\w'.heap[x]?=w.heap[x]?):EnvFree G' w':=
 ⟨h.1.of fun x hx=>(hk x (h.1.lt x hx) (h.2 x hx)).2,fun x hx=>(hk x (h.1.lt x hx) (h.2 x hx)).1⟩
theorem EnvFree.sub {G S1 S Sa:Nat->Prop} {w w1:World} {R:Kn} (h:EnvFree G w) (h3:Sep 0 (Keep w G) R S1 w1) (h1:∀ x,S1 x->S x/\¬ Sa x):EnvFree Sa w1:=by obtain⟨Sk,Sr,k1,k2,k3,k4⟩:=h3;exact h.kept fun x hx hg=>⟨(h1 x (k1 x (k3 x hx hg).1).1).2,(k3 x hx hg).2⟩
theorem EnvFree.now {G S:Nat->Prop} {w w1:World} {l:List LB} {os:List OR} {R O:Kn} (h:EnvFree G w) (hc:CtxF no (bare w) S w1 l os (Sep 0 (Sep 0 (Keep w G) R) O)):Env w1:=by obtain⟨S1,So,h1,h2,h3,h4⟩:=hc.row;exact (h.sub h3 h1).1
def RecK (e:Nat) (A:Option Addr) (n cap:Nat) (xs:List Value):Kn:=fun S w=>xs.length=n/\n<=cap/\cap<=maxLen/\(A=none/\cap=0\/∃ g o cur,A=some ⟨g,o,none⟩/\S g/\Blk w g e cur/\o+cap<=cur.length/\(cur.drop o).take n=xs)
theorem RecK.stab (e:Nat) (A:Option Addr) (n cap:Nat) (xs:List Value):Stab (RecK e A n cap xs):=fun S w S' w' h f=>⟨h.1,h.2.1,h.2.2.1,h.2.2.2.elim .inl fun ⟨g,o,cur,h1,h2,h3,h4⟩=>.inr ⟨g,o,cur,h1,f.1 _ h2,h3.of_eq (f.2 _ h2),h4⟩⟩
theorem ya {e:Nat} {A:Option Addr} {n cap:Nat} {xs:List Value}:Stab (RecK e A n cap xs):=RecK.stab _ _ _ _ _
theorem RecK.nil (e:Nat) (S:Nat->Prop) (w:World):RecK e none 0 0 [] S w:=⟨rfl,zc _,zb _,.inl ⟨rfl,rfl⟩⟩
theorem RecK.row {e n cap:Nat} {A:Option Addr} {xs:List Value} {S:Nat->Prop} {w:World} (h:RecK e A n cap xs S w):Row S w A n cap xs:=by
 obtain⟨h1,h2,h3,h4⟩:=h;refine⟨h2,h3,fun hx=>?_⟩;rcases h4 with ⟨_,h4⟩ | ⟨g,o,cur,rfl,hs,hB,hl,ht⟩
 ·exact absurd (zn (by omega)) hx
 ·refine⟨_,rfl,hs,fun j u hu=>?_⟩;rw [Addr.add_lit,hB.cell];rw [<-ht,List.getElem?_take] at hu;split at hu
  ·rw [List.getElem?_drop] at hu;exact hu
  ·cases hu
theorem cells_of {w:World} {ad:Addr}:∀ (ys:List Value) (i:Nat),cellsAt w ad ys i->∀ j u,ys[j]?=some u->w.cell? (ad.add (i+j))=some u
 | [],_,_,j,u,h=>by cases h
 | v::r,i,h,j,u,hu=>by
  cases j with
  | zero=>cases hu;exact h.1
  | succ j=>rw [show i+(j+1)=i+1+j from by omega];exact cells_of r (i+1) h.2 j u hu
theorem B5S {P:Program} {w0 w:World} {S:Nat->Prop} {l:List LB} {os:List OR} {R:Kn} {e t T n cap m c bytes:Nat} {A:Option Addr} {cs:Array Bool} {xs ys:List Value} {z:Value} {K:Value->World->Prop}
  (ht:P.underlying t=some (.slice e)) (hi:(P.info? e).map (fun i=>(i.zero,i.size,i.bytes))=some (some z,1,bytes)) (hzs:z.cells.size=1)
  (hc:CtxF no w0 S w l os (Sep w0.heap.size R (RecK e A n cap xs))) (hR:Stab R) {ad:Addr} (hy:cellsAt w ad ys 0) (hl:ys.length=m) (hm:0<m) (h1:D7 ys=true) (h63:n+m<=34359738368) (hby:bytes<=4096)
  (k:∀ A' cap' w' S',CtxF no w0 S' w' l os (Sep w0.heap.size R (RecK e A' (n+m) cap' (xs++ys)))->K (.slice A' (n+m) cap') w'):
  ∃ v w',(builtin .append #[t,t] T cs #[.slice A n cap,.slice (some ad) m c]).run P w=.ok (.value v) w'/\K v w':=by
 obtain⟨i,h2,h3,h4,h5⟩:=info_parts hi;have hnews:∀ j u,ys[j]?=some u->w.cell? (ad.add j)=some u:=fun j u hu=>by have:=cells_of ys 0 hy j u hu;rwa [zm] at this
 have hl':ys.length=m*i.size:=by rw [h4,hl,Nat.mul_one]
 have hmax:n+m<=maxLen:=zo h63 (by decide);have hbytes:(n+m)*i.bytes<=140737488355328:=by rw [h5];exact zo (Nat.mul_le_mul h63 hby) (by decide)
 obtain⟨S1,Sa,r1,r2,r3,hk1,hk2,hk3,hk4⟩:=hc.row;have fin:∀ v w',(Builtin.append_ #[t,t] T #[.slice A n cap,.slice (some ad) m c]).run P w=.ok v w'->(∃ A' cap' Sn,v=.slice A' (n+m) cap'/\Turn Sa w w'/\(∀ x,Sn x->(Sa x\/w.heap.size<=x)/\x<w'.heap.size)/\RecK e A' (n+m) cap' (xs++ys) Sn w')->∃ v w',(builtin .append #[t,t] T cs #[.slice A n cap,.slice (some ad) m c]).run P w=.ok (.value v) w'/\K v w':=by intro v w' hr hh;obtain⟨A',cap',Sn,rfl,hT,hSn,hO⟩:=hh;refine⟨_,w',?_,k A' cap' w' _ (hc.turnO hR r1 r2 r3 hT hSn hO ya)⟩;show (do pure (Next.value (<-Builtin.append_ #[t,t] T #[.slice A n cap,.slice (some ad) m c])):Sem Next).run P w=_;simp only [Sem.run_bind,hr,Result.andThen_ok,Sem.run_pure]
 have grown:∀ (old:Nat),old<n+m->∃ A' cap' Sn,(Value.slice (some ⟨w.heap.size,0,none⟩) (n+m) (grownCap w (n+m) old e))=.slice A' (n+m) cap'/\Turn Sa w (w.drew.alloc (.cells (xs.toArray++ys.toArray++Builtin.zeroCells z.cells (grownCap w (n+m) old e-(n+m))) e))/\(∀ x,Sn x->(Sa x\/w.heap.size<=x)/\x<(w.drew.alloc (.cells (xs.toArray++ys.toArray++Builtin.zeroCells z.cells (grownCap w (n+m) old e-(n+m))) e)).heap.size)/\RecK e A' (n+m) cap' (xs++ys) Sn (w.drew.alloc (.cells (xs.toArray++ys.toArray++Builtin.zeroCells z.cells (grownCap w (n+m) old e-(n+m))) e)):=by
  intro old ho;have hge:=grownCap_ge w (n+m) old e;have hcm:grownCap w (n+m) old e<=maxLen:=grownCap_le_maxLen w (n+m) old e hmax;have hsz:(w.drew.alloc (.cells (xs.toArray++ys.toArray++Builtin.zeroCells z.cells (grownCap w (n+m) old e-(n+m))) e)).heap.size=w.heap.size+1:=by simp
  have hlen:(xs++ys).length=n+m:=by rw [z6,hk1,hl]
  refine⟨_,_,fun x=>x=w.heap.size,rfl,⟨rfl,rfl,rfl,fun x hx _=>heap_alloc_old w.drew _ hx⟩,fun x hx=>⟨.inr (Nat.le_of_eq hx.symm),by rw [hsz];show x<_;rw [show x=w.heap.size from hx];omega⟩,hlen,hge,hcm,.inr ⟨w.heap.size,0,(xs.toArray++ys.toArray++Builtin.zeroCells z.cells (grownCap w (n+m) old e-(n+m))).toList,rfl,rfl,heap_alloc_new w.drew _,?_,?_⟩⟩
  ·have e1:(xs.toArray++ys.toArray++Builtin.zeroCells z.cells (grownCap w (n+m) old e-(n+m))).toList.length=n+m+(grownCap w (n+m) old e-(n+m))*1:=by rw [Array.length_toList,Array.size_append,Array.size_append,List.size_toArray,List.size_toArray,size_zeroCells,hzs,hk1,hl]
   rw [e1];omega
  ·simp only [Array.toList_append,zv,List.drop_zero];rw [<-zv,<-hlen];exact List.take_left
 rcases hk4 with ⟨rfl,rfl⟩ | ⟨g,o,cur,rfl,hs,hB,hcl,htk⟩
 ·have hn:n=0:=by omega
  subst hn;have hx:xs=[]:=zn hk1;subst hx;have hr:=run_append_nil (P:=P) w t T e i z ht h2 h3 ad m c ys hl' hnews (by omega) (by omega) (by have hb:=hbytes;simp only [zm] at hb;omega);have hgr:=grown 0 (by omega);simp only [zm,List.nil_append,Array.empty_append] at hgr fin ⊢;exact fin _ _ hr hgr
 ·by_cases hroom:n+m<=cap
  ·have hst:=run_storeCells_at P g (o+n) e ys 0 cur.toArray w hB (by simp only [List.size_toArray];omega) (H7 h1);have hf:=run_firstCells_some (P:=P) w i.size m ad m c ys hl' hnews;rw [h4] at hf;have hr:(Builtin.append_ #[t,t] T #[.slice (some ⟨g,o,none⟩) n cap,.slice (some ad) m c]).run P w=.ok (.slice (some ⟨g,o,none⟩) (n+m) cap) (w.setRow g (cur.take (o+n)++ys++cur.drop (o+n+ys.length)).toArray):=by simp only [Nat.add_zero] at hst;simp [Builtin.append_,run_underlying ht,sizeOf,typeInfo,h2,Builtin.lenOf,hroom,hf,Addr.add_lit,h4] at hst ⊢;show ((Sem.run P (storeCells ⟨g,o+n,none⟩ ys 0) w).andThen fun a w'=>Result.ok (Value.slice (some ⟨g,o,none⟩) (n+m) cap) w')=_;rw [hst];rfl
   refine fin _ _ hr ⟨_,_,Sa,rfl,⟨rfl,rfl,rfl,fun x hx hn=>setRow_other w g x _ (fun e=>hn (e▸hs))⟩,fun x hx=>⟨.inl hx,?_⟩,by rw [z6,hk1,hl],hroom,hk3,.inr ⟨g,o,cur.take (o+n)++ys++cur.drop (o+n+ys.length),rfl,hs,setRow_heap w g cur.toArray _ e (0,0) hB,?_,?_⟩⟩
   ·have:=hc.ctx.lt x (r2 x hx).1;simpa using this
   ·simp only [z6,zf,zg];omega
   ·rw [zv,List.drop_append_of_le_length (by rw [zf];omega),List.drop_take,show o+n-o=n from by omega,htk,<-zv];rw [show n+m=(xs++ys).length from by rw [z6,hk1,hl]];exact List.take_left
  ·have holds:∀ j u,xs[j]?=some u->w.cell? ((⟨g,o,none⟩:Addr).add j)=some u:=fun j u hu=>by
    rw [Addr.add_lit,hB.cell];rw [<-htk,List.getElem?_take] at hu;split at hu
    ·rw [List.getElem?_drop] at hu;exact hu
    ·cases hu
   have hr:=run_append_grow (P:=P) w t T e i z ht h2 h3 ⟨g,o,none⟩ n cap xs (by rw [h4,Nat.mul_one];exact hk1) holds ad m c ys hl' hnews (by omega) (by simp only [maxLen] at hmax;omega) (growslice_fits (by omega) hbytes);exact fin _ _ hr (grown cap (by omega))
end Go.Vc
end
namespace Go.Proofs.YtefdfaeieekioaaGreatDoor
open Go.Vc Go.RowKit Go.Fl
theorem A7Y:(Tryz.prog.info? 45).map (fun i=>(i.zero,i.size,i.bytes))=some (some (.agg #[.int .i64 0,.string ⟨#[]⟩,.string ⟨#[]⟩,.int .i64 0,.int .i64 0,.string ⟨#[]⟩,.int .i64 0,.int .i64 0]),8,88):=by kernel_rfl
theorem B5T (a:Option Addr) (n c:Nat) (ox oy:Operand) (w:World):(do eqGuard .eql 22 ox oy (.slice a n c) (.slice none 0 0);Go.binOp .eql 22 (.slice a n c) (.slice none 0 0):Sem Value).run Tryz.prog w=.ok (.bool a.isNone) w:=by have h:=Lib.run_eql_slice_nil (P:=Tryz.prog) w 22 45 a n c 0 0 Tryz.underlying22;simp only [eqGuard];simpa using h
theorem W3 (A:Option Addr) (n cap:Nat) (css:List (List Value)) (hF:Flat 8 css) (hn:css.length=n) (hb:n<=1000000) (S:Nat->Prop) (w:World) (hR:Row S w A n cap css.flatten):
  Calls Tryz.prog 62 #[.slice A n cap] w (B2g 45 8 n css.flatten w):=by
 refine vE Tryz.func62 ?_;refine⟨_,fun w=>B5T A n cap _ _ w,?_⟩;cases A with
 | none=>
  obtain⟨h0,h1⟩:=Row.cut hR hF (by decide) hn rfl;subst h0;rw [h1];exact⟨none,0,rfl,Below.refl _ _,World.ownsRow_nil _ _ _ _⟩
 | some ad=>
  intro g w1 h1;have hc:=Ctx.start w no (fun _ h=>h.elim);obtain⟨hc,hf,ho⟩:=Own.made hc h1 8 0 rfl (zb _);refine Z0 Tryz.underlying22 A7Y rfl (by decide) hc ho (hR.below h1.below) (by rw [hF.len,hn]) hF.ones (by omega) (by decide) ?_;intro A' cap' w2 hc hf ho _;rw [zm] at ho ⊢;rw [List.nil_append] at ho;exact⟨A',cap',rfl,hc.below,ho.row⟩
theorem B0n:(Tryz.prog.info? 9).map (fun i=>(i.zero,i.size,i.bytes))=some (some (.string ⟨#[]⟩),1,16):=by kernel_rfl
theorem B5U (a:Option Addr) (n c:Nat) (ox oy:Operand) (w:World):(do eqGuard .eql 114 ox oy (.slice a n c) (.slice none 0 0);Go.binOp .eql 114 (.slice a n c) (.slice none 0 0):Sem Value).run Tryz.prog w=.ok (.bool a.isNone) w:=by have h:=Lib.run_eql_slice_nil (P:=Tryz.prog) w 114 9 a n c 0 0 Tryz.underlying114;simp only [eqGuard];simpa using h
theorem A8P (A:Option Addr) (n cap:Nat) (css:List (List Value)) (hF:Flat 1 css) (hn:css.length=n) (hb:n<=1000000) (S:Nat->Prop) (w:World) (hR:Row S w A n cap css.flatten):
  Calls Tryz.prog 132 #[.slice A n cap] w (B2g 9 1 n css.flatten w):=by
 refine vE Tryz.func132 ?_;refine⟨_,fun w=>B5U A n cap _ _ w,?_⟩;cases A with
 | none=>
  obtain⟨h0,h1⟩:=Row.cut hR hF (by decide) hn rfl;subst h0;rw [h1];exact⟨none,0,rfl,Below.refl _ _,World.ownsRow_nil _ _ _ _⟩
 | some ad=>
  intro g w1 h1;have hc:=Ctx.start w no (fun _ h=>h.elim);obtain⟨hc,hf,ho⟩:=Own.made hc h1 1 0 rfl (zb _);refine Z0 Tryz.underlying114 B0n rfl (by decide) hc ho (hR.below h1.below) (by rw [hF.len,hn]) hF.ones (by omega) (by decide) ?_;intro A' cap' w2 hc hf ho _;rw [zm] at ho ⊢;rw [List.nil_append] at ho;exact⟨A',cap',rfl,hc.below,ho.row⟩
theorem B60:(Tryz.prog.info? 3).map (fun i=>(i.zero,i.size,i.bytes))=some (some (.int .i64 0),1,8):=by kernel_rfl
theorem B5V (a:Option Addr) (n c:Nat) (ox oy:Operand) (w:World):(do eqGuard .eql 29 ox oy (.slice a n c) (.slice none 0 0);Go.binOp .eql 29 (.slice a n c) (.slice none 0 0):Sem Value).run Tryz.prog w=.ok (.bool a.isNone) w:=by have h:=Lib.run_eql_slice_nil (P:=Tryz.prog) w 29 3 a n c 0 0 Tryz.underlying29;simp only [eqGuard];simpa using h
theorem A8Q (A:Option Addr) (n cap:Nat) (css:List (List Value)) (hF:Flat 1 css) (hn:css.length=n) (hb:n<=1000000) (S:Nat->Prop) (w:World) (hR:Row S w A n cap css.flatten):
  Calls Tryz.prog 84 #[.slice A n cap] w (B2g 3 1 n css.flatten w):=by
 refine vE Tryz.func84 ?_;refine⟨_,fun w=>B5V A n cap _ _ w,?_⟩;cases A with
 | none=>
  obtain⟨h0,h1⟩:=Row.cut hR hF (by decide) hn rfl;subst h0;rw [h1];exact⟨none,0,rfl,Below.refl _ _,World.ownsRow_nil _ _ _ _⟩
 | some ad=>
  intro g w1 h1;have hc:=Ctx.start w no (fun _ h=>h.elim);obtain⟨hc,hf,ho⟩:=Own.made hc h1 1 0 rfl (zb _);refine Z0 Tryz.underlying29 B60 rfl (by decide) hc ho (hR.below h1.below) (by rw [hF.len,hn]) hF.ones (by omega) (by decide) ?_;intro A' cap' w2 hc hf ho _;rw [zm] at ho ⊢;rw [List.nil_append] at ho;exact⟨A',cap',rfl,hc.below,ho.row⟩
theorem A3p {d:Nat} (h:d<16):hv (B6r d)=d:=by
 unfold hv;rw [A0c d h];by_cases h1:d<10
 ·rw [y6 h1,y6 (by omega)];push_cast;omega
 ·rw [y7 h1,y7 (by omega)];push_cast;omega
theorem A8R {d:Nat} (h:d<16):T9 (B6r d)=true:=by
 unfold T9;rw [A0c d h,Bool.or_eq_true,z7,z7];simp only [y0];by_cases h1:d<10
 ·rw [y6 h1];omega
 ·rw [y7 h1];omega
theorem A5G (a:Int) (q:Nat):(a / 2 ^ (12-4*q) % 16).toNat<16:=by omega
theorem A5H {a:Int} (h0:0<=a) (h1:a<65536):A2k (A6z a)=a:=by
 show (((0*16+hv (dig a 0))*16+hv (dig a 1))*16+hv (dig a 2))*16+hv (dig a 3)=a;unfold dig;rw [A3p (A5G a 0),A3p (A5G a 1),A3p (A5G a 2),A3p (A5G a 3)];have e0:(2:Int) ^ (12-4*0)=4096:=by decide
 have e1:(2:Int) ^ (12-4*1)=256:=by decide
 have e2:(2:Int) ^ (12-4*2)=16:=by decide
 have e3:(2:Int) ^ (12-4*3)=1:=by decide
 rw [e0,e1,e2,e3];omega
theorem A8S {z:Int × Int} (h:zOk z):Y7 (X5 z)=(z,true):=by
 obtain⟨⟨a0,a1⟩,b0,b1⟩:=h;have hp:pp (X5 z) 8=z:=by show (A2k (A6z z.1),A2k (A6z z.2))=z;rw [A5H a0 (by omega),A5H b0 (by omega)]
 have hall:(X5 z).all T9=true:=by show ([dig z.1 0,dig z.1 1,dig z.1 2,dig z.1 3,dig z.2 0,dig z.2 1,dig z.2 2,dig z.2 3]:List UInt8).all T9=true;unfold dig;simp only [List.all_cons,List.all_nil,A8R (A5G _ _),Bool.and_true]
 unfold Y7;rw [hp,y6 ⟨rfl,hall,a1,b1⟩]
def A2A (t:List UInt8):ByteArray × Nat × Int:=
 if A19 t=false then (⟨#[]⟩,0,3) else if t.length<8 then (⟨#[]⟩,0,2)
 else if (A0F (t.drop 8)).2.2=2 then (⟨#[]⟩,0,2)
 else if (A0F (t.drop 8)).2.2≠0\/vK (A0F (t.drop 8)).1≠2\/J2 (vS (A0F (t.drop 8)).1)≠t.take (8+(A0F (t.drop 8)).2.1) then (⟨#[]⟩,0,3)
 else (vS (A0F (t.drop 8)).1,8+(A0F (t.drop 8)).2.1,0)
theorem B20 (s:ByteArray) (h:s.size<=400000):A4T (vStr s)=J1 (vStr s):=by
 have h7:(Lib.decDigits (I2 (vStr s)).length).length<=7:=I3 (show s.data.toList.length<_ by rw [Array.length_toList];show s.size<_;omega);have hm:A2z (vStr s)=true:=by kernel_rfl
 unfold A4T;rw [hm,zy h7];rfl
theorem A0M (s:ByteArray) (h:s.size<=400000):J2 s=A2p s.data.toList++J1 (vStr s):=by unfold J2;rw [y7 (by omega),B20 s h]
theorem A3q (s:ByteArray) (h:s.size<=400000):10<=(J2 s).length:=by rw [A0M s h,z6,Q2];have h1:=F6 (vStr s);have h2:=List.length_pos_iff.2 (P6 (I2 (vStr s)).length).1;omega
theorem A5I (s:List UInt8) (r:List UInt8):A19 (A2p s++r)=true:=by have hl:=Q2 s;unfold A19;rw [List.take_append_of_le_length (by omega),List.take_of_length_le (by omega),z6,show 8-((A2p s).length+r.length)=0 from by omega];show (Y7 (A2p s++[])).2=true;rw [zw];unfold A2p;rw [A8S (A6y _ _ ⟨by decide,by decide⟩)]
theorem B8I (s r:List UInt8):(A2p s++r).drop 8=r:=by have hl:=Q2 s;rw [List.drop_append_of_le_length (by omega),zq (by omega),List.nil_append]
theorem A8T (s:ByteArray) (h:s.size<=400000) (r:List UInt8):A2A (J2 s++r)=(s,(J2 s).length,0):=by
 have hl:=Q2 s.data.toList;have ht:(I2 (vStr s)).length<10000000:=show s.data.toList.length<_ by rw [Array.length_toList];show s.size<_;omega
 have hm:A2z (vStr s)=true:=by kernel_rfl
 have hg:A0F (J1 (vStr s)++r)=(vStr s,(J1 (vStr s)).length,0):=by unfold A0F;rw [B2R 6 (vStr s) (by unfold A2z at hm;exact of_decide_eq_true hm) ⟨⟨by decide,by decide⟩,trivial⟩ ht r];simp only [hm];rfl
 have hlen:(J2 s).length=8+(J1 (vStr s)).length:=by rw [A0M s h,z6,hl]
 unfold A2A;rw [A0M s h,zv,A5I,B8I,hg,y7 (by decide),y7 (by rw [z6];omega)];simp only;rw [y7 (by decide),y7]
 ·show (s,8+_,_)=_;rw [z6,hl]
 ·rintro (e | e | e)
  ·exact e rfl
  ·exact e rfl
  ·apply e;show J2 s=_;rw [A0M s h,<-zv,List.take_left' (by rw [z6,hl])]
def D6:List ByteArray->List UInt8
 | []=>[]
 | s::r=>J2 s++D6 r
theorem Y4:∀ a b:List ByteArray,D6 (a++b)=D6 a++D6 b
 | [],b=>rfl
 | s::r,b=>by rw [List.cons_append,D6,D6,Y4 r b,zv]
def Splits:List UInt8->List ByteArray->Nat->Prop
 | t,[],at_=>at_=0/\(t=[]\/(A2A t).2.2=2)
 | t,x::xs,at_=>∃ n a,A2A t=(x,n,0)/\0<n/\n<=t.length/\at_=n+a/\Splits (t.drop n) xs a
theorem Splits.leaves:∀ (l:List ByteArray) (p:List UInt8),(∀ x∈l,x.size<=400000)->(p=[]\/(A2A p).2.2=2)->Splits (D6 l++p) l (D6 l).length
 | [],p,_,hp=>⟨rfl,hp⟩
 | s::r,p,hl,hp=>by
  have hs:=hl s (zu ..);have h10:=A3q s hs;refine⟨(J2 s).length,(D6 r).length,?_,by omega,?_,?_,?_⟩
  ·rw [D6,zv];exact A8T s hs _
  ·rw [D6,zv,z6];omega
  ·rw [D6,z6]
  ·rw [D6,zv,List.drop_left' rfl];exact Splits.leaves r p (fun x hx=>hl x (zt _ hx)) hp
theorem B21 {s:Stt} {d:D} (h:T5 s=true) (hd:L3 d=true) (hq:s.seq<E3):(doS s d).1.seq=s.seq+1:=by
 rw [B8G h hd hq];unfold doF;split
 ·rfl
 split
 ·rfl
 split
 ·rfl
 simp only;split<;>rfl
theorem W4:∀ (l:List D) {s:Stt},T5 s=true->s.lows.length=5->(∀ d∈l,L3 d=true)->s.seq+l.length<=E3->(U0 s l).seq=s.seq+l.length
 | [],s,h,h5,hd,hq=>by show s.seq=s.seq+((0:Nat):Int);omega
 | d::r,s,h,h5,hd,hq=>by rw [zi] at hq;have e:=B21 h (hd d (zu ..)) (by omega);have ih:=W4 r (A7G (d:=d) h5 h) (A5C d h5) (fun x hx=>hd x (zt _ hx)) (by omega);show (U0 (doS s d).1 r).seq=_;rw [ih,e,zi];omega
def A4V:Stt->List D->List Res
 | _,[]=>[]
 | s,d::r=>(doS s d).2::A4V (doS s d).1 r
theorem A1P:∀ (s:Stt) (l:List D),(A4V s l).length=l.length
 | _,[]=>rfl
 | s,d::r=>by rw [A4V,zi,zi,A1P]
theorem A5J (s:Stt) (a b:List D):U0 s (a++b)=U0 (U0 s a) b:=by unfold U0;rw [List.foldl_append]
structure Known where
 b:Stt
 pend:List D
 ep:Int
 ln:Int
def Known0:Known:=⟨A4z,[],0,0⟩
def Known.seq (k:Known):Int:=k.b.seq+k.pend.length
structure Known.Ok (k:Known):Prop where
 may:T5 k.b=true
 lows:k.b.lows.length=5
 pend:∀ d∈k.pend,L3 d=true/\d.Ok
 len:k.pend.length<=60
 seq:k.b.seq+k.pend.length<=E3
 ep:B3 k.ep
 ln:B3 k.ln
theorem Known0.ok:Known0.Ok:=⟨by kernel_rfl,rfl,(fun d hd=>by cases hd),zb _,by decide,by unfold B3;decide,by unfold B3;decide⟩
def A2B (k:Known):V:=P9 [vStr ⟨(A00 k.b).toArray⟩,P9 (k.pend.map A1E),O7 k.ep,O7 k.ln]
def A6P (k:Known):List UInt8:=A4T (A2B k)
theorem R8 {d:D} (h:L3 d=true):A1E d=V2 d:=by rw [A1E,y6 h]
theorem A7Z (f:Nat) (d:D):cnt (f+2) (V2 d)=9:=by simp [V2,I6,L8,A3d,A0d]
theorem A8U {k:Known} (h:k.Ok):A2z (A2B k)=true:=by have hl:=h.len;have h1:=M6 (cnt 4) (fun v=>(L4 4 v).1) 9 (k.pend.map A1E) 1 (fun x hx=>by obtain⟨d,hd,rfl⟩:=List.mem_map.1 hx;rw [R8 (h.pend d hd).1,A7Z];decide) (by rw [zj];omega);rw [zj] at h1;rw [A2z,y0,A2B,I6,C4,A3d,y7 (by decide),C4,I6,y7 (by omega),C4,L8,y7 (by omega),C4,L8,y7 (by omega),A0d];omega
theorem A6Q {s:Stt} (h5:s.lows.length=5) (h:T5 s=true):(A00 s).length<=200009:=by have h1:=A7I s h5 h;have h2:=I3 (u:=(I2 (B4N s)).length) (by omega);rw [A8D s h5 h,F6];omega
theorem A5K {d:D} (hk:d.Ok) (h:L3 d=true):(J1 (V2 d)).length<=1009:=by have h1:=A9v d hk h;have h2:=I3 (u:=(I2 (V2 d)).length) (by omega);rw [F6];omega
theorem A5L {k:Known} (h:k.Ok):(I2 (A2B k)).length<=270000:=by
 have b1:=M7 1009 (k.pend.map A1E) fun x hx=>by obtain⟨d,hd,rfl⟩:=List.mem_map.1 hx;rw [R8 (h.pend d hd).1];exact A5K (h.pend d hd).2 (h.pend d hd).1
 rw [zj] at b1;have hl:=h.len;have c1:=O0 (k.pend.map A1E) 60540 (by omega) (by decide);have c2:=A6Q h.lows h.may;have c3:=M2 ⟨(A00 k.b).toArray⟩ (by show (A00 k.b).toArray.size<_;rw [List.size_toArray];omega);have e3:(⟨(A00 k.b).toArray⟩:ByteArray).size=(A00 k.b).length:=List.size_toArray ..;have c4:=D5 k.ep h.ep;have c5:=D5 k.ln h.ln;rw [A2B,A0h];simp only [M5,z6,List.length_nil];omega
theorem B22 {d:D} (hk:d.Ok) (h:L3 d=true):okV (A1E d):=by rw [R8 h];exact A9w d hk
theorem A7a {v:V} (h:A2z v=true) (hl:(I2 v).length<10000000):A4T v=J1 v:=by have:=I3 hl;rw [A4T,h];simp [this]
theorem B23 {k:Known} (h:k.Ok):A6P k=J1 (A2B k):=A7a (A8U h) (by have:=A5L h;omega)
theorem B0o {k:Known} (h:k.Ok):(A6P k).length<=270009:=by have h1:=A5L h;have h2:=I3 (u:=(I2 (A2B k)).length) (by omega);rw [B23 h,F6];omega
def FirstOk (s:ByteArray) (k:Known):Prop:=(s=⟨#[]⟩/\k=Known0)\/(s=⟨(A6P k).toArray⟩/\k.Ok)
theorem FirstOk.ok {s:ByteArray} {k:Known} (h:FirstOk s k):k.Ok:=by
 rcases h with ⟨_,rfl⟩ | ⟨_,h⟩
 ·exact Known0.ok
 ·exact h
theorem FirstOk.size {s:ByteArray} {k:Known} (h:FirstOk s k):s.size<=270009:=by
 rcases h with ⟨rfl,_⟩ | ⟨rfl,h⟩
 ·decide
 ·show (A6P k).toArray.size<=_;rw [List.size_toArray];exact B0o h
inductive Rc where
 | add (d:D)
 | done (n:Int)
 | enter (n:Int)
def vRc:Rc->V
 | .add d=>P9 [O7 1,A1E d]
 | .done n=>P9 [O7 2,O7 n]
 | .enter n=>P9 [O7 3,O7 n]
def Q3 (r:Rc):ByteArray:=⟨(A4T (vRc r)).toArray⟩
def Rc.Ok:Rc->Prop
 | .add d=>L3 d=true/\d.Ok
 | .done n=>B3 n
 | .enter n=>B3 n
theorem A2C {r:Rc} (h:r.Ok):A2z (vRc r)=true/\(I2 (vRc r)).length<=1100/\okV (vRc r):=by
 have n1:=D5 1 (by unfold B3;decide);have n2:=D5 2 (by unfold B3;decide);have n3:=D5 3 (by unfold B3;decide);have o1:B3 1:=by unfold B3;decide
 have o2:B3 2:=by unfold B3;decide
 have o3:B3 3:=by unfold B3;decide
 cases r with
 | add d=>
  obtain⟨h1,h2⟩:=h;have hd:=A5K h2 h1;refine⟨?_,?_,A6J _ ?_⟩
  ·rw [A2z,y0,vRc,R8 h1,I6,C4,L8,y7 (by decide),C4,A7Z,y7 (by decide),A0d];decide
  ·rw [vRc,R8 h1,A0h];simp only [M5,z6,List.length_nil];omega
  ·simp only [okL];exact⟨A1v _ o1,B22 h2 h1,trivial⟩
 | done n=>
  have h:B3 n:=h;have hd:=D5 n h;refine⟨?_,?_,A6J _ ?_⟩
  ·rw [A2z,y0,vRc,I6,C4,L8,y7 (by decide),C4,L8,y7 (by decide),A0d];decide
  ·rw [vRc,A0h];simp only [M5,z6,List.length_nil];omega
  ·simp only [okL];exact⟨A1v _ o2,A1v _ h,trivial⟩
 | enter n=>
  have h:B3 n:=h;have hd:=D5 n h;refine⟨?_,?_,A6J _ ?_⟩
  ·rw [A2z,y0,vRc,I6,C4,L8,y7 (by decide),C4,L8,y7 (by decide),A0d];decide
  ·rw [vRc,A0h];simp only [M5,z6,List.length_nil];omega
  ·simp only [okL];exact⟨A1v _ o3,A1v _ h,trivial⟩
theorem B5W {r:Rc} (h:r.Ok):A4T (vRc r)=J1 (vRc r):=by obtain⟨h1,h2,_⟩:=A2C h;exact A7a h1 (by omega)
theorem B0p {r:Rc} (h:r.Ok):(J1 (vRc r)).length<=1109:=by obtain⟨h1,h2,_⟩:=A2C h;have h3:=I3 (u:=(I2 (vRc r)).length) (by omega);rw [F6];omega
theorem A0N {r:Rc} (h:r.Ok):(Q3 r).size<=1109:=by show (A4T (vRc r)).toArray.size<=_;rw [List.size_toArray,B5W h];exact B0p h
def C2 (k:Known) (n:Int):Known × List Res:=
 (⟨U0 k.b (k.pend.take (n-k.b.seq).toNat),k.pend.drop (n-k.b.seq).toNat,k.ep,k.ln⟩,A4V k.b (k.pend.take (n-k.b.seq).toNat))
def A0O (k:Known):Rc->Known
 | .add d=>⟨k.b,k.pend++[d],k.ep,k.ln⟩
 | .done n=>(C2 k n).1
 | .enter n=>⟨k.b,k.pend,max k.ep n,k.ln⟩
def B2B (k:Known):Rc->Prop
 | .add d=>k.pend.length<60/\k.seq<E3
 | .done n=>n<=k.seq
 | .enter n=>True
theorem Known.Ok.commit {k:Known} (h:k.Ok) (n:Int):(C2 k n).1.Ok:=by
 have hp:∀ d∈k.pend.take (n-k.b.seq).toNat,L3 d=true:=fun d hd=>(h.pend d (List.mem_of_mem_take hd)).1;obtain⟨a,b,_⟩:=A7T (k.pend.take (n-k.b.seq).toNat) h.may h.lows;have hs:=h.seq;have hlen:(k.pend.take (n-k.b.seq).toNat).length+(k.pend.drop (n-k.b.seq).toNat).length=k.pend.length:=by rw [<-z6,List.take_append_drop]
 have e:=W4 (k.pend.take (n-k.b.seq).toNat) h.may h.lows hp (by omega);refine⟨a,b,fun d hd=>h.pend d (List.mem_of_mem_drop hd),?_,?_,h.ep,h.ln⟩
 ·have:=h.len;show (k.pend.drop _).length<=60;omega
 ·show (U0 k.b (k.pend.take (n-k.b.seq).toNat)).seq+((k.pend.drop (n-k.b.seq).toNat).length:Int)<=E3;rw [e];omega
theorem Known.Ok.step {k:Known} (h:k.Ok) {r:Rc} (hr:r.Ok) (hc:B2B k r):(A0O k r).Ok:=by
 cases r with
 | add d=>
  obtain⟨h1,h2⟩:=hc;unfold Known.seq at h2;refine⟨h.may,h.lows,fun x hx=>?_,?_,?_,h.ep,h.ln⟩
  ·rcases List.mem_append.1 hx with hx | hx
   ·exact h.pend x hx
   ·rw [List.mem_singleton.1 hx];exact hr
  ·show (k.pend++[d]).length<=60;rw [z6];exact h1
  ·show k.b.seq+((k.pend++[d]).length:Int)<=E3;rw [z6];simp only [zi,List.length_nil];omega
 | done n=>exact h.commit n
 | enter n=>
  refine⟨h.may,h.lows,h.pend,h.len,h.seq,?_,h.ln⟩;have h1:=h.ep;have h2:B3 n:=hr;unfold B3 at*;show -_<=max k.ep n/\max k.ep n<=_;omega
def A8V (k:Known) (l:List Rc):Known:=l.foldl A0O k
theorem A8W (k:Known) (l:List Rc) (r:Rc):A8V k (l++[r])=A0O (A8V k l) r:=by unfold A8V;rw [List.foldl_append];rfl
def Can:Known->List Rc->Prop
 | _,[]=>True
 | k,r::l=>r.Ok/\B2B k r/\Can (A0O k r) l
theorem Can.ok:∀ {l:List Rc} {k:Known},k.Ok->Can k l->(A8V k l).Ok
 | [],k,hk,_=>hk
 | r::l,k,hk,⟨h1,h2,h3⟩=>Can.ok (l:=l) (hk.step h1 h2) h3
theorem Can.snoc:∀ {l:List Rc} {k:Known} {r:Rc},Can k l->r.Ok->B2B (A8V k l) r->Can k (l++[r])
 | [],k,r,_,h1,h2=>⟨h1,h2,trivial⟩
 | x::l,k,r,⟨a,b,c⟩,h1,h2=>⟨a,b,Can.snoc c h1 h2⟩
theorem Can.mem:∀ {l:List Rc} {k:Known},Can k l->∀ r∈l,r.Ok
 | x::l,k,⟨a,b,c⟩,r,hr=>by
  cases hr with
  | head=>exact a
  | tail _ h=>exact Can.mem c r h
structure Ros where
 ep:Int
 l:List Int
 new:Int
def Ros0:Ros:=⟨0,[],0⟩
structure Ros.Ok (r:Ros):Prop where
 ep:B3 r.ep
 l:∀ n∈r.l,B3 n
 new:B3 r.new
def eqI (a b:Int):Bool:=a==b
theorem eqI_iff (a b:Int):eqI a b=true↔a=b:=beq_iff_eq
def eqR (a b:Ros):Bool:=a.ep==b.ep&&(a.new==b.new&&U8 eqI a.l b.l)
theorem B5X {a b:Ros}:eqR a b=true↔a=b:=by
 constructor
 ·intro h;unfold eqR at h;rw [z7,z7,beq_iff_eq,beq_iff_eq,A1p eqI_iff] at h;obtain⟨e1,l1,n1⟩:=a;obtain⟨e2,l2,n2⟩:=b;obtain⟨h1,h2,h3⟩:=h;simp only at h1 h2 h3;rw [h1,h2,h3]
 ·rintro rfl;unfold eqR;rw [beq_self_eq_true,beq_self_eq_true,(A1p eqI_iff).2 rfl];rfl
def inR (n:Int):Bool:=decide (1<=n)&&decide (n<=5)
def A6R (r:Ros):Bool:=decide (1<=r.ep)&&(decide (r.ep<=E3)&&(decide (1<=r.l.length)&&(decide (r.l.length<=5)&&(r.l.all inR&&(decide r.l.Nodup&&(r.new==0||(decide (1<r.l.length)&&r.l.getLastD 0==r.new)))))))
theorem Q4 {r:Ros}:A6R r=true↔(1<=r.ep/\r.ep<=E3)/\(1<=r.l.length/\r.l.length<=5)/\(∀ n∈r.l,1<=n/\n<=5)/\r.l.Nodup/\(r.new=0\/(1<r.l.length/\r.l.getLastD 0=r.new)):=by
 unfold A6R;rw [z7,z7,z7,z7,z7,z7,Bool.or_eq_true,z7,y0,y0,y0,y0,y0,y0,beq_iff_eq,beq_iff_eq,List.all_eq_true];have:∀ n,inR n=true↔1<=n/\n<=5:=fun n=>by unfold inR;rw [z7,y0,y0]
 constructor
 ·rintro⟨a,b,c,d,e,f,g⟩;exact⟨⟨a,b⟩,⟨c,d⟩,fun n hn=>(this n).1 (e n hn),f,g⟩
 ·rintro⟨⟨a,b⟩,⟨c,d⟩,e,f,g⟩;exact⟨a,b,c,d,fun n hn=>(this n).2 (e n hn),f,g⟩
theorem A5M {l:List Int} (h:1<=l.length):l.getLastD 0∈l:=by
 cases l with
 | nil=>exact absurd h (by decide)
 | cons a r=>rw [List.getLastD_cons,List.getLastD_eq_getLast?];cases r with
  | nil=>simp
  | cons b t=>simp [List.getLast?_eq_some_getLast]
theorem B0q {r:Ros} (h:A6R r=true):r.Ok:=by
 obtain⟨⟨a,b⟩,⟨c,d⟩,e,f,g⟩:=Q4.1 h;have hm:E3=1099511627776:=rfl;refine⟨by unfold B3;omega,fun n hn=>by have:=e n hn;unfold B3;omega,?_⟩;rcases g with g | ⟨_,g⟩
 ·rw [g];unfold B3;decide
 ·rw [<-g];have:=e _ (A5M c);unfold B3;omega
structure Wd where
 kind:Int
 frm:Int
 to:Int
 ep:Int
 seq:Int
 req:Int
 til:Int
 res:Res
 ros:Ros
 deeds:List D
 st:Stt
def Wd0:Wd:=⟨0,0,0,0,0,0,0,⟨0,0⟩,Ros0,[],A4z⟩
structure Wd.Ok (w:Wd):Prop where
 kind:B3 w.kind
 frm:B3 w.frm
 to:B3 w.to
 ep:B3 w.ep
 seq:B3 w.seq
 req:B3 w.req
 til:B3 w.til
 err:B3 w.res.err
 ver:B3 w.res.ver
 ros:w.ros.Ok
 deeds:∀ d∈w.deeds,d.Ok
 st:w.st.Ok
 five:w.st.lows.length=5
def B24 (n:Int):Bool:=decide (0<=n)&&decide (n<=E3)
def A5N (n:Int):Bool:=decide (0<=n)&&decide (n<=5)
theorem I8 {n:Int}:B24 n=true↔0<=n/\n<=E3:=by unfold B24;rw [z7,y0,y0]
theorem V5 {n:Int}:A5N n=true↔0<=n/\n<=5:=by unfold A5N;rw [z7,y0,y0]
def B0r (w:Wd):Bool:=(decide (1<=w.kind)&&decide (w.kind<=11))&&(A5N w.frm&&(A5N w.to&&(!(w.frm==w.to)&&(B24 w.ep&&(B24 w.seq&&(B24 w.req&&(B24 w.til&&(B24 w.res.ver&&(decide (0<=w.res.err)&&decide (w.res.err<=13))))))))))
def A51 (w:Wd):Bool:=B0r w&&((eqR w.ros Ros0||A6R w.ros)&&(decide (w.deeds.length<=60)&&(w.deeds.all L3&&T5 w.st)))
theorem J7 {w:Wd}:B0r w=true↔(1<=w.kind/\w.kind<=11)/\(0<=w.frm/\w.frm<=5)/\(0<=w.to/\w.to<=5)/\w.frm≠w.to/\(0<=w.ep/\w.ep<=E3)/\(0<=w.seq/\w.seq<=E3)/\(0<=w.req/\w.req<=E3)/\(0<=w.til/\w.til<=E3)/\(0<=w.res.ver/\w.res.ver<=E3)/\(0<=w.res.err/\w.res.err<=13):=by unfold B0r;simp only [z7,y0,I8,V5,Bool.not_eq_true',y4,ne_eq]
theorem Q5 {w:Wd}:A51 w=true↔B0r w=true/\(w.ros=Ros0\/A6R w.ros=true)/\w.deeds.length<=60/\(∀ d∈w.deeds,L3 d=true)/\T5 w.st=true:=by unfold A51;simp only [z7,Bool.or_eq_true,y0,List.all_eq_true,B5X]
end Go.Proofs.YtefdfaeieekioaaGreatDoor
