import Derived.Test.YtfekddndgakneaaGreatDoorM08
import Derived.Maps.OwnSet
import Derived.Maps.Views
import Derived.Maps.StringElems
import Derived.Maps.Range
import Derived.Maps.RangeWalk
import Derived.Laws.OwnMore
set_option maxRecDepth 100000
set_option maxHeartbeats 40000000
set_option linter.unusedVariables false
set_option linter.unusedSimpArgs false
section
namespace Go.Proofs.YtfekddndgakneaaGreatDoor
open Go.Vc Go.RowKit Go.Fl Go.ChangeShapes Go.WideShapes Go.ChangeAt
section
variable {H:Type} {enc:TypeId × Value->H} {P:Program} {w:World} {base:Nat} {spare:Nat->Bool} {held:Bool} {fuel:Nat} {t:TypeId} {cs:List Value} {x:DataW H × List MemPlace}
theorem H1 (ht:P.underlying t=some (.int .i64)) (h:DataW.trod enc P w base spare held fuel t cs=some x):∃ n,cs=[.int .i64 n]/\B9 n:=by
 obtain⟨n,e,_,hw⟩:=DataW.trod_int ht h
 simp only [Lit.wf,Bool.and_eq_true,decide_eq_true_eq] at hw
 refine⟨n,e,?_⟩
 have h1:=hw.1
 have h2:=hw.2
 rw [show IntKind.i64.min = -9223372036854775808 by decide] at h1
 rw [show IntKind.i64.max=9223372036854775807 by decide] at h2
 exact⟨h1,h2⟩
theorem A4b (ht:P.underlying t=some .string) (h:DataW.trod enc P w base spare held fuel t cs=some x):∃ s,cs=[.string s]/\s.size<=maxLen:=by
 obtain⟨s,e,_,hw⟩:=DataW.trod_string ht h
 exact⟨s,e,hw⟩
theorem B6N (ht:P.underlying t=some .bool) (h:DataW.trod enc P w base spare held fuel t cs=some x):∃ b,cs=[.bool b]:=by
 obtain⟨b,e,_⟩:=DataW.trod_bool ht h
 exact⟨b,e⟩
theorem L5 {fs:Array Field} (ht:P.underlying t=some (.struct fs)) (h:DataW.trod enc P w base spare held fuel t cs=some x):
  cs.length=P.cellsOf t/\∀ (i:Nat) (f:Field),fs[i]?=some f->∃ n y,DataW.trod enc P w base spare held n f.type ((cs.drop f.offset).take (P.cellsOf f.type))=some y:=by
 obtain⟨xs,n,_,_,hl,hlen,hf⟩:=DataW.trod_struct ht h
 refine⟨hl,fun i f hi=>⟨n,?_⟩⟩
 have hi':i<xs.length:=by
  rw [hlen]
  exact (Array.getElem?_eq_some_iff.1 hi).1
 exact⟨xs[i],by rw [hf i f hi,List.getElem?_eq_getElem hi']⟩
theorem fld {fs:Array Field} (h2:∀ (i:Nat) (f:Field),fs[i]?=some f->∃ n y,DataW.trod enc P w base spare held n f.type ((cs.drop f.offset).take (P.cellsOf f.type))=some y)
  (i:Nat) (f:Field) (hi:fs[i]?=some f) (T:TypeId) (hT:f.type=T) (k:Nat) (hk:P.cellsOf T=k) (o:Nat) (ho:f.offset=o):∃ n y,DataW.trod enc P w base spare held n T ((cs.drop o).take k)=some y:=by
 subst hT;subst hk;subst ho
 exact h2 i f hi
theorem B6O {a:Addr} {u:Value} (h:w.cell? a=some u):a.block<w.heap.size:=by
 rcases Nat.lt_or_ge a.block w.heap.size with h1 | h1
 ·exact h1
 ·have h2:w.heap[a.block]?=none:=by simp;omega
  simp [World.cell?,h2] at h
theorem B4O {e:TypeId} (hk:0<P.cellsOf e) (ht:P.underlying t=some (.slice e)) (h:DataW.trod enc P w base spare held fuel t cs=some x):
  ∃ A len cap,cs=[.slice A len cap]/\len<=cap/\cap<=maxLen/\∀ i,i<len->∃ a c n y,A=some a/\c.length=P.cellsOf e/\a.block<w.heap.size/\(∀ j,j<P.cellsOf e->w.cell? (a.add (i*P.cellsOf e+j))=c[j]?)/\DataW.trod enc P w base spare held n e c=some y:=by
 rcases DataW.trod_slice ht h with ⟨rfl,_⟩ | ⟨a,len,cap,elems,rest,n,_,rfl,_,hb,hlc,hcm,hel,hi,_⟩
 ·exact⟨none,0,0,rfl,Nat.le_refl _,Nat.zero_le _,fun i hi=>absurd hi (by omega)⟩
 ·refine⟨some a,len,cap,rfl,hlc,hcm,fun i hil=>?_⟩
  have h1:=hi i hil
  rw [List.getElem?_eq_getElem (by omega)] at h1
  obtain⟨c,hc,hr⟩:=Option.bind_eq_some_iff.1 h1
  obtain⟨_,hcl,hcc⟩:=World.cells?_some hc
  refine⟨a,c,n,_,rfl,hcl,?_,fun j hj=>?_,hr⟩
  ·have h0:=hcc 0 hk
   rw [List.getElem?_eq_getElem (by omega)] at h0
   have:=B6O h0
   rwa [P6,P6] at this
  ·rw [<-add_add]
   exact hcc j hj
theorem B2I {k:Nat}:∀ (css:List (List Value)),(∀ c∈css,c.length=k)->∀ (m:Nat) (u:Value),css.flatten[m]?=some u->∃ i j c,css[i]?=some c/\j<k/\m=i*k+j/\c[j]?=some u
 | [],_,m,u,h=>by simp at h
 | c::r,hl,m,u,h=>by
  have hc:=hl c (by simp)
  rw [List.flatten_cons] at h
  rcases Nat.lt_or_ge m k with hm | hm
  ·rw [List.getElem?_append_left (by omega)] at h
   exact⟨0,m,c,rfl,hm,by omega,h⟩
  ·rw [List.getElem?_append_right (by omega),hc] at h
   obtain⟨i,j,c',h1,h2,h3,h4⟩:=B2I r (fun x hx=>hl x (by simp [hx])) (m-k) u h
   exact⟨i+1,j,c',by simpa using h1,h2,by rw [Nat.succ_mul];omega,h4⟩
theorem A7t {α:Type} {e:TypeId} (R:α->List Value->Prop) (hk:0<P.cellsOf e) (hread:∀ n c y,DataW.trod enc P w base spare held n e c=some y->∃ a,R a c)
  (ht:P.underlying t=some (.slice e)) (h:DataW.trod enc P w base spare held fuel t cs=some x):
  ∃ A cap,∃ (l:List α) (css:List (List Value)),cs=[.slice A l.length cap]/\css.length=l.length/\(∀ (i:Nat) (a:α) (c:List Value),l[i]?=some a->css[i]?=some c->R a c)/\(∀ c∈css,c.length=P.cellsOf e)/\Row (fun b=>b<w.heap.size) w A l.length cap css.flatten:=by
 obtain⟨A,len,cap,rfl,hlc,hcm,hel⟩:=B4O hk ht h
 have hex:∀ i:Fin len,∃ q:Addr × List Value × α,A=some q.1/\q.2.1.length=P.cellsOf e/\q.1.block<w.heap.size/\(∀ j,j<P.cellsOf e->w.cell? (q.1.add (i.val*P.cellsOf e+j))=q.2.1[j]?)/\R q.2.2 q.2.1:=by
  intro i
  obtain⟨a,c,n,y,h1,h2,h3,h4,h5⟩:=hel i.val i.isLt
  obtain⟨b,hb⟩:=hread n c y h5
  exact⟨(a,c,b),h1,h2,h3,h4,hb⟩
 obtain⟨f,hf⟩:=Classical.axiomOfChoice hex
 refine⟨A,cap,List.ofFn fun i=>(f i).2.2,List.ofFn fun i=>(f i).2.1,by simp,by simp,?_,?_,?_⟩
 ·intro i a c h1 h2
  rw [List.getElem?_ofFn] at h1 h2
  split at h1
  ·rename_i hi
   rw [dif_pos hi] at h2
   cases h1;cases h2
   exact (hf ⟨i,hi⟩).2.2.2.2
  ·cases h1
 ·intro c hc
  obtain⟨i,rfl⟩:=List.mem_ofFn.1 hc
  exact (hf i).2.1
 ·rw [List.length_ofFn]
  refine⟨hlc,hcm,fun hne=>?_⟩
  have hpos:0<len:=by
   rcases Nat.eq_zero_or_pos len with h0 | h0
   ·subst h0
    exact absurd (by simp) hne
   ·exact h0
  obtain⟨hA,_,hS,_,_⟩:=hf ⟨0,hpos⟩
  refine⟨(f ⟨0,hpos⟩).1,hA,hS,fun m u hu=>?_⟩
  obtain⟨i,j,c,h1,h2,rfl,h4⟩:=B2I _ (fun c hc=>by
   obtain⟨i,rfl⟩:=List.mem_ofFn.1 hc
   exact (hf i).2.1) m u hu
  rw [List.getElem?_ofFn] at h1
  split at h1
  ·rename_i hi
   cases h1
   rw [Option.some.inj (hA.symm.trans (hf ⟨i,hi⟩).1)]
   rw [(hf ⟨i,hi⟩).2.2.2.1 j h2]
   exact h4
  ·cases h1
end
theorem B5L {c:List Value} (h:c.length=8):∃ a0 a1 a2 a3 a4 a5 a6 a7,c=[a0,a1,a2,a3,a4,a5,a6,a7]:=by
 match c,h with
 | [a0,a1,a2,a3,a4,a5,a6,a7],_=>exact⟨a0,a1,a2,a3,a4,a5,a6,a7,rfl⟩
theorem A5W:Tryz.prog.cellsOf 3=1:=by kernel_rfl
theorem A1g:Tryz.prog.cellsOf 2=1:=by kernel_rfl
theorem B2J:Tryz.prog.cellsOf 9=1:=by kernel_rfl
theorem B5M:Tryz.prog.cellsOf 60=8:=by kernel_rfl
section
variable {H:Type} {enc:TypeId × Value->H} {w:World} {base:Nat} {spare:Nat->Bool} {held:Bool} {fuel:Nat} {cs:List Value} {x:DataW H × List MemPlace}
theorem B6P (h:DataW.trod enc Tryz.prog w base spare held fuel 60 cs=some x):∃ d:D,cs=dC d/\d.Ok:=by
 obtain⟨hl,hf⟩:=L5 Tryz.underlying60 h
 rw [B5M] at hl
 obtain⟨c0,c1,c2,c3,c4,c5,c6,c7,rfl⟩:=B5L hl
 obtain⟨_,_,h0⟩:=fld hf 0 _ rfl 3 rfl 1 A5W 0 rfl
 obtain⟨_,_,h1⟩:=fld hf 1 _ rfl 9 rfl 1 B2J 1 rfl
 obtain⟨_,_,h2⟩:=fld hf 2 _ rfl 9 rfl 1 B2J 2 rfl
 obtain⟨_,_,h3⟩:=fld hf 3 _ rfl 2 rfl 1 A1g 3 rfl
 obtain⟨_,_,h4⟩:=fld hf 4 _ rfl 3 rfl 1 A5W 4 rfl
 obtain⟨_,_,h5⟩:=fld hf 5 _ rfl 9 rfl 1 B2J 5 rfl
 obtain⟨_,_,h6⟩:=fld hf 6 _ rfl 2 rfl 1 A1g 6 rfl
 obtain⟨_,_,h7⟩:=fld hf 7 _ rfl 2 rfl 1 A1g 7 rfl
 obtain⟨n0,e0,k0⟩:=H1 Tryz.underlying3 h0
 obtain⟨n1,e1,k1⟩:=A4b Tryz.underlying9 h1
 obtain⟨n2,e2,k2⟩:=A4b Tryz.underlying9 h2
 obtain⟨n3,e3,k3⟩:=H1 Tryz.underlying2 h3
 obtain⟨n4,e4,k4⟩:=H1 Tryz.underlying3 h4
 obtain⟨n5,e5,k5⟩:=A4b Tryz.underlying9 h5
 obtain⟨n6,e6,k6⟩:=H1 Tryz.underlying2 h6
 obtain⟨n7,e7,k7⟩:=H1 Tryz.underlying2 h7
 cases e0;cases e1;cases e2;cases e3;cases e4;cases e5;cases e6;cases e7
 have hm:∀ {n:Nat},n<=maxLen->n<=9223372036854775807:=fun h=>Nat.le_trans h (by decide)
 exact⟨⟨n0,n1,n2,n3,n4,n5,n6,n7⟩,rfl,⟨k0,hm k1,hm k2,k3,k4,hm k5,k6,k7⟩⟩
end
section
variable {H:Type} {enc:TypeId × Value->H} {P:Program} {w:World} {base:Nat} {spare:Nat->Bool} {held:Bool} {fuel:Nat} {t:TypeId} {cs:List Value} {x:DataW H × List MemPlace}
theorem A5X {α:Type} {e:TypeId} (f:α->List Value) (Ok:α->Prop) (hk:0<P.cellsOf e) (hread:∀ n c y,DataW.trod enc P w base spare held n e c=some y->∃ a,c=f a/\Ok a)
  (ht:P.underlying t=some (.slice e)) (h:DataW.trod enc P w base spare held fuel t cs=some x):
  ∃ A cap,∃ l:List α,cs=[.slice A l.length cap]/\Row (fun b=>b<w.heap.size) w A l.length cap (l.map f).flatten/\∀ a∈l,Ok a:=by
 obtain⟨A,cap,l,css,rfl,hl,hR,_,hrow⟩:=A7t (fun a c=>c=f a/\Ok a) hk hread ht h
 refine⟨A,cap,l,rfl,?_,fun a ha=>?_⟩
 ·have:css=l.map f:=by
   refine List.ext_getElem (by simpa using hl) fun i h1 h2=>?_
   rw [List.getElem_map]
   exact (hR i _ _ (List.getElem?_eq_getElem (by omega)) (List.getElem?_eq_getElem h1)).1
  rwa [this] at hrow
 ·obtain⟨i,hi,rfl⟩:=List.getElem_of_mem ha
  exact (hR i _ _ (List.getElem?_eq_getElem hi) (List.getElem?_eq_getElem (by omega))).2
end
theorem B7r:Tryz.prog.cellsOf 4=1:=by kernel_rfl
theorem B7s:Tryz.prog.cellsOf 102=3:=by kernel_rfl
theorem B7t:Tryz.prog.cellsOf 88=1:=by kernel_rfl
theorem B7u:Tryz.prog.cellsOf 90=2:=by kernel_rfl
theorem B7v:Tryz.prog.cellsOf 29=1:=by kernel_rfl
theorem B7w:Tryz.prog.cellsOf 104=3:=by kernel_rfl
theorem B7x:Tryz.prog.cellsOf 30=1:=by kernel_rfl
theorem B6Q:Tryz.prog.cellsOf 24=2:=by kernel_rfl
theorem B7y:Tryz.prog.cellsOf 22=1:=by kernel_rfl
theorem B7z:Tryz.prog.cellsOf 31=5:=by kernel_rfl
theorem B70:Tryz.prog.cellsOf 33=8:=by kernel_rfl
theorem mx {n:Nat} (h:n<=maxLen):n<=9223372036854775807:=Nat.le_trans h (by decide)
section
variable {H:Type} {enc:TypeId × Value->H} {w:World} {base:Nat} {spare:Nat->Bool} {held:Bool} {fuel:Nat} {cs:List Value} {x:DataW H × List MemPlace}
theorem B71 (h:DataW.trod enc Tryz.prog w base spare held fuel 102 cs=some x):∃ d:Ver,cs=F3 d/\d.Ok:=by
 obtain⟨hl,hf⟩:=L5 Tryz.underlying102 h
 rw [B7s] at hl
 obtain⟨c0,c1,c2,rfl⟩:=B1I hl
 obtain⟨_,_,h0⟩:=fld hf 0 _ rfl 2 rfl 1 A1g 0 rfl
 obtain⟨_,_,h1⟩:=fld hf 1 _ rfl 4 rfl 1 B7r 1 rfl
 obtain⟨_,_,h2⟩:=fld hf 2 _ rfl 9 rfl 1 B2J 2 rfl
 obtain⟨n0,e0,k0⟩:=H1 Tryz.underlying2 h0
 obtain⟨n1,e1⟩:=B6N Tryz.underlying4 h1
 obtain⟨n2,e2,k2⟩:=A4b Tryz.underlying9 h2
 cases e0;cases e1;cases e2
 exact⟨⟨n0,n1,n2⟩,rfl,⟨k0,mx k2⟩⟩
theorem B72 (h:DataW.trod enc Tryz.prog w base spare held fuel 104 cs=some x):∃ d:Mem,cs=F5 d/\d.Ok:=by
 obtain⟨hl,hf⟩:=L5 Tryz.underlying104 h
 rw [B7w] at hl
 obtain⟨c0,c1,c2,rfl⟩:=B1I hl
 obtain⟨_,_,h0⟩:=fld hf 0 _ rfl 2 rfl 1 A1g 0 rfl
 obtain⟨_,_,h1⟩:=fld hf 1 _ rfl 24 rfl 2 B6Q 1 rfl
 obtain⟨n0,e0,k0⟩:=H1 Tryz.underlying2 h0
 obtain⟨_,hg⟩:=L5 Tryz.underlying24 h1
 obtain⟨_,_,h2⟩:=fld hg 0 _ rfl 22 rfl 1 B7y 0 rfl
 obtain⟨_,_,h3⟩:=fld hg 1 _ rfl 2 rfl 1 A1g 1 rfl
 obtain⟨n1,e1,k1⟩:=H1 Tryz.underlying22 h2
 obtain⟨n2,e2,k2⟩:=H1 Tryz.underlying2 h3
 cases e0;cases e1;cases e2
 exact⟨⟨n0,⟨n1,n2⟩⟩,rfl,⟨k0,k1,k2⟩⟩
abbrev inW (w:World) (b:Nat):Prop:=b<w.heap.size
theorem B73 (h:DataW.trod enc Tryz.prog w base spare held fuel 90 cs=some x):∃ d:Ent,RepE (inW w) w d cs/\d.Ok:=by
 obtain⟨hl,hf⟩:=L5 Tryz.underlying90 h
 rw [B7u] at hl
 obtain⟨c0,c1,rfl⟩:=A8a hl
 obtain⟨_,_,h0⟩:=fld hf 0 _ rfl 9 rfl 1 B2J 0 rfl
 obtain⟨_,_,h1⟩:=fld hf 1 _ rfl 88 rfl 1 B7t 1 rfl
 obtain⟨n0,e0,k0⟩:=A4b Tryz.underlying9 h0
 obtain⟨A,cap,l,e1,hr,hk⟩:=A5X F3 Ver.Ok (by rw [B7s];decide) (fun _ _ _ h=>B71 h) Tryz.underlying88 h1
 cases e0;cases e1
 exact⟨⟨n0,l⟩,⟨A,cap,rfl,hr⟩,⟨mx k0,hk⟩⟩
theorem A8z {S:Nat->Prop} {w:World}:∀ {l:List Ent} {css:List (List Value)},css.length=l.length->(∀ (i:Nat) a c,l[i]?=some a->css[i]?=some c->RepE S w a c)->RepEs S w l css
 | [],[],_,_=>rfl
 | a::l,c::css,hl,h=>⟨c,css,rfl,h 0 a c rfl rfl,A8z (by simpa using hl) fun i a' c' h1 h2=>h (i+1) a' c' (by simpa using h1) (by simpa using h2)⟩
 | [],_::_,hl,_=>by simp at hl
 | _::_,[],hl,_=>by simp at hl
theorem B4P (h:DataW.trod enc Tryz.prog w base spare held fuel 33 cs=some x):∃ d:Stt,RepS (inW w) w d cs/\d.Ok:=by
 obtain⟨hl,hf⟩:=L5 Tryz.underlying33 h
 rw [B70] at hl
 obtain⟨c0,c1,c2,c3,c4,c5,c6,c7,rfl⟩:=B5L hl
 obtain⟨_,_,h0⟩:=fld hf 0 _ rfl 2 rfl 1 A1g 0 rfl
 obtain⟨_,_,h1⟩:=fld hf 1 _ rfl 29 rfl 1 B7v 1 rfl
 obtain⟨_,_,h2⟩:=fld hf 2 _ rfl 30 rfl 1 B7x 2 rfl
 obtain⟨_,_,h3⟩:=fld hf 3 _ rfl 31 rfl 5 B7z 3 rfl
 obtain⟨n0,e0,k0⟩:=H1 Tryz.underlying2 h0
 obtain⟨A,cap,l,css,e1,hcl,hR,_,hr1⟩:=A7t (fun a c=>RepE (inW w) w a c/\a.Ok) (by rw [B7u];decide) (fun _ _ _ h=>B73 h) Tryz.underlying29 h1
 obtain⟨B,cap',ms,e2,hr2,hk2⟩:=A5X F5 Mem.Ok (by rw [B7w];decide) (fun _ _ _ h=>B72 h) Tryz.underlying30 h2
 obtain⟨xs,m,_,_,_,hxl,hx⟩:=DataW.trod_array Tryz.underlying31 h3
 rw [A1g] at hx
 have hx':∀ i,i<5->∃ y,DataW.trod enc Tryz.prog w base spare held m 2 (((([.int .i64 n0,c1,c2,c3,c4,c5,c6,c7].drop 3).take 5).drop (i*1)).take 1)=some y:=fun i hi=>⟨xs[i],by
  have:=hx i hi
  rw [List.getElem?_eq_getElem (by omega)] at this
  cases e0
  exact this⟩
 obtain⟨_,g0⟩:=hx' 0 (by decide)
 obtain⟨_,g1⟩:=hx' 1 (by decide)
 obtain⟨_,g2⟩:=hx' 2 (by decide)
 obtain⟨_,g3⟩:=hx' 3 (by decide)
 obtain⟨_,g4⟩:=hx' 4 (by decide)
 obtain⟨l0,f0,j0⟩:=H1 Tryz.underlying2 g0
 obtain⟨l1,f1,j1⟩:=H1 Tryz.underlying2 g1
 obtain⟨l2,f2,j2⟩:=H1 Tryz.underlying2 g2
 obtain⟨l3,f3,j3⟩:=H1 Tryz.underlying2 g3
 obtain⟨l4,f4,j4⟩:=H1 Tryz.underlying2 g4
 cases e0;cases e1;cases e2;cases f0;cases f1;cases f2;cases f3;cases f4
 refine⟨⟨n0,l,ms,[l0,l1,l2,l3,l4]⟩,⟨A,cap,css,B,cap',rfl,rfl,A8z hcl (fun i a c h1 h2=>(hR i a c h1 h2).1),hr1,hr2⟩,⟨k0,fun e he=>?_,hk2,fun x hx=>?_⟩⟩
 ·obtain⟨i,hi,rfl⟩:=List.getElem_of_mem he
  exact (hR i _ _ (List.getElem?_eq_getElem hi) (List.getElem?_eq_getElem (by rw [hcl];exact hi))).2
 ·simp only [List.mem_cons,List.not_mem_nil,or_false] at hx
  rcases hx with rfl | rfl | rfl | rfl | rfl
  ·exact j0
  ·exact j1
  ·exact j2
  ·exact j3
  ·exact j4
end
section
variable {H:Type} {enc:TypeId × Value->H} {W:World} {base:Nat} {sp:Nat->Bool} {hd:Bool} {v:Value} {d:DataW H} {p:List MemPlace}
theorem A2w {t:TypeId} (ht:Tryz.prog.underlying t=some (.int .i64)) (h:DataW.Trod enc Tryz.prog W 0 sp hd t v d p) (k:Value.okWide Tryz.prog W .any base t v):∃ n,v=.int .i64 n/\B9 n:=by
 obtain⟨n,rfl⟩:=okWide_int ht k
 obtain⟨fuel,hf⟩:=h
 obtain⟨m,e,hm⟩:=H1 ht hf
 have e2:(Value.int .i64 n).cells.toList=[.int .i64 n]:=rfl
 rw [e2] at e
 cases e
 exact⟨n,rfl,hm⟩
theorem B4Q (h:DataW.Trod enc Tryz.prog W 0 sp hd 9 v d p) (k:Value.okWide Tryz.prog W .any base 9 v):∃ s,v=.string s/\s.size<=maxLen:=by
 obtain⟨s,rfl⟩:=okWide_string Tryz.underlying9 k
 obtain⟨fuel,hf⟩:=h
 obtain⟨m,e,hm⟩:=A4b Tryz.underlying9 hf
 have e2:(Value.string s).cells.toList=[.string s]:=rfl
 rw [e2] at e
 cases e
 exact⟨s,rfl,hm⟩
theorem B6R (h:DataW.Trod enc Tryz.prog W 0 sp hd 5 v d p) (k:Value.okWide Tryz.prog W .any base 5 v):∃ n:Int,v=.int .u8 n/\0<=n/\n<=255:=by
 obtain⟨n,rfl,_,_,hw⟩:=open_int Tryz.underlying5 k h
 simp only [Lit.wf,Bool.and_eq_true,decide_eq_true_eq] at hw
 have h1:=hw.1
 have h2:=hw.2
 rw [show IntKind.u8.min=0 by decide] at h1
 rw [show IntKind.u8.max=255 by decide] at h2
 exact⟨n,rfl,h1,h2⟩
end
end Go.Proofs.YtfekddndgakneaaGreatDoor
end
section
namespace Go.Vc
open Go Go.RowKit
theorem Drawn.join {P:Program} {id:Nat} {ops:Array Oper} {f:Fr} {w:World} {K:Fr->World->Prop} {α:Type} (l:α->List (Nat × Value)) (R:α->World->Prop)
  (h:Drawn P id ops f w (fun f' w'=>∃ x,B5B f' (l x)/\R x w')) (hk:∀ x u w',R x w'->K (Go.Vc.mk (l x) u) w'):Drawn P id ops f w K:=
 ⟨fun n a h1 h2=>wp_mono (h.wp n a h1 h2) fun e a' w' ⟨he,f',ha,x,hf,hr⟩=>⟨he,f',ha,by
  have:=hk x f' w' hr
  rwa [A7O hf] at this⟩⟩
abbrev Old (w x:World):Prop:=Keeps (fun b=>b<w.heap.size) w x
theorem Old.start (w:World):Old w w.drew:=Keeps.start _ _
theorem CtxF.old0 {S0 S:Nat->Prop} {w0 w:World} {l:List LB} {os:List OR} {R:Kn} (_:CtxF S0 w0 S w l os R):Old w w.drew:=Keeps.start _ _
theorem CtxF.swapL {S0 S:Nat->Prop} {w0 w:World} {x y:LB} {l:List LB} {os:List OR} {R:Kn} (hc:CtxF S0 w0 S w (x::y::l) os R):CtxF S0 w0 S w (y::x::l) os R:=by
 obtain⟨⟨h1,h2,h3,h4,h5⟩,h6,h7,h8⟩:=hc
 obtain⟨g,T,cs⟩:=x
 obtain⟨g',T',cs'⟩:=y
 obtain⟨a1,a2,a3,a4,b1,b2,b3,b4,b5⟩:=h5
 refine⟨⟨h1,h2,h3,h4,b1,b2,b3,fun z hz=>?_,a1,a2,a3,fun z hz=>a4 z (List.mem_cons_of_mem _ hz),b5⟩,h6.step fun o ho a ha=>⟨rfl,((h6.mem o ho).out a ha).1,fun z hz=>((h6.mem o ho).out a ha).2 z ?_⟩,h7,h8⟩
 ·cases hz with
  | head=>exact fun e=>a4 (g',T',cs') (List.mem_cons_self ..) e.symm
  | tail _ hz=>exact b4 z hz
 ·cases hz with
  | head=>exact List.mem_cons_of_mem _ (List.mem_cons_self ..)
  | tail _ hz=>
   cases hz with
   | head=>exact List.mem_cons_self ..
   | tail _ hz=>exact List.mem_cons_of_mem _ (List.mem_cons_of_mem _ hz)
end Go.Vc
namespace Go.Proofs.YtfekddndgakneaaGreatDoor
open Go.Vc Go.RowKit Go.Fl Go.ChangeShapes Go.WideShapes Go.ChangeAt
structure SX where
 A:Option Addr
 cap:Nat
 B:Option Addr
 cap':Nat
 l0:Int
 l1:Int
 l2:Int
 l3:Int
 l4:Int
def stX (s:Stt) (x:SX):List Value:=[.int .i64 s.seq,.slice x.A s.l.length x.cap,.slice x.B s.ms.length x.cap',.int .i64 x.l0,.int .i64 x.l1,.int .i64 x.l2,.int .i64 x.l3,.int .i64 x.l4]
def SX0:SX:=⟨none,0,none,0,0,0,0,0,0⟩
theorem RepS.stX {S:Nat->Prop} {w:World} {s:Stt} {cs:List Value} (h:RepS S w s cs):∃ x,cs=stX s x:=by
 obtain⟨A,cap,css,B,cap',l0,l1,l2,l3,l4,rfl,_⟩:=h.shape
 exact⟨⟨A,cap,B,cap',l0,l1,l2,l3,l4⟩,rfl⟩
theorem A9r (S:Nat->Prop) (w:World):RepS S w Stt0 (stX Stt0 SX0):=B7c S w
theorem B5N (s:ByteArray) (n:Nat) (h:n<=1000000):G7 (cut s n):=Nat.le_trans (A0k s n) (Nat.le_trans h (by decide))
theorem B6S {v:Ver} (h:v.Ok):(A6m v).Ok:=⟨h.ver,B5N _ _ (by decide)⟩
theorem B6T {e:Ent} (h:e.Ok):(A1e e).Ok:=⟨B5N _ _ (by decide),fun v hv=>by
 obtain⟨u,hu,rfl⟩:=List.mem_map.1 hv
 exact B6S (h.vs u (List.mem_of_mem_take hu))⟩
theorem B6U {s:Stt} (h:s.Ok):(cutS s).Ok:=⟨h.seq,fun e he=>by
 obtain⟨u,hu,rfl⟩:=List.mem_map.1 he
 exact B6T (h.l u (List.mem_of_mem_take hu)),fun m hm=>h.ms m (List.mem_of_mem_take hm),h.lows⟩
theorem O1 (l:List D):Flat 8 (l.map dC):=Flat.map dC (fun d=>⟨rfl,rfl⟩) l
theorem A1h (s:ByteArray) (n:Nat):cut (cut s n) n=cut s n:=by
 have h:=A0k s n
 generalize cut s n=t at*
 unfold cut
 rw [Nat.min_eq_left h]
 exact ByteArray.extract_zero_size
theorem B2K (v:Ver):A6m (A6m v)=A6m v:=by
 unfold A6m
 rw [A1h]
theorem B2L (e:Ent):A1e (A1e e)=A1e e:=by
 have h1:((e.vs.take 14).map A6m).take 14=(e.vs.take 14).map A6m:=by rw [<-List.map_take,List.take_take,Nat.min_self]
 have h2:((e.vs.take 14).map A6m).map A6m=(e.vs.take 14).map A6m:=by
  rw [List.map_map]
  exact List.map_congr_left fun v _=>B2K v
 show (⟨cut (cut e.key 42) 42,(((e.vs.take 14).map A6m).take 14).map A6m⟩:Ent)=⟨cut e.key 42,(e.vs.take 14).map A6m⟩
 rw [A1h,h1,h2]
theorem Old.looks {w x:World} (h:Old w x) {a:Addr} {cs:List Value} {i:Nat} (hc:Go.Vc.cellsAt w a cs i):Go.Vc.cellsAt x a cs i:=Keeps.looks h _ _ hc
end Go.Proofs.YtfekddndgakneaaGreatDoor
end
namespace Go.Proofs.YtfekddndgakneaaGreatDoor
open Go.Vc Go.RowKit Go.Fl
def doF (s:Stt) (d:D):Stt × Res:=
 if d.req<M1 s.lows (C0 d.req) then (⟨s.seq+1,s.l,s.ms,s.lows⟩,⟨12,0⟩)
 else match A0N s.ms d.req with
  | some m=>(⟨s.seq+1,s.l,s.ms,s.lows⟩,m.res)
  | none=>
   if 100<=s.ms.length then (⟨s.seq+1,s.l,s.ms,s.lows⟩,⟨5,0⟩)
   else
    let q:=doK s.l (s.seq+1) d
    let ms:=s.ms.take (R8 s.ms d.req)++⟨d.req,q.2⟩::s.ms.drop (R8 s.ms d.req)
    if M1 s.lows (C0 d.req)<d.low/\C0 d.low=C0 d.req then
     (⟨s.seq+1,q.1,T9 d.low (C0 d.req) ms,s.lows.set (C0 d.req-1).toNat d.low⟩,q.2)
    else (⟨s.seq+1,q.1,ms,s.lows⟩,q.2)
theorem B8y {s:Stt} {d:D} (h:Q1 s=true) (hd:J4 d=true) (hq:s.seq<J9):doS s d=doF s d:=by
 unfold doS doF
 rw [if_neg (by rw [h,hd];decide),if_neg (by omega)]
 rfl
theorem B6V (s:Stt) (d:D):(doS s d).1.seq<=s.seq+1:=by
 cases A8t s d with
 | form _ e=>rw [e];show s.seq<=_;omega
 | top _ e=>rw [e];show s.seq<=_;omega
 | old _ _ _ _ e=>rw [e];exact Int.le_refl _
 | told _ _ _ _ _ _ e=>rw [e];exact Int.le_refl _
 | full _ _ _ _ _ _ e=>rw [e];exact Int.le_refl _
 | new _ _ _ _ _ _ _ _ _ _ e=>rw [e];exact Int.le_refl _
def A2l (s:Stt) (l:List D):Stt:=l.foldl (fun s d=>(doS s d).1) s
theorem A80:∀ (l:List D) {s:Stt},Q1 s=true->s.lows.length=5->Q1 (A2l s l)=true/\(A2l s l).lows.length=5/\(A2l s l).seq<=s.seq+l.length
 | [],s,h,h5=>⟨h,h5,by show s.seq<=s.seq+((0:Nat):Int);omega⟩
 | d::r,s,h,h5=>by
  obtain⟨a,b,c⟩:=A80 r (A8j (d:=d) h5 h) (A6k d h5)
  have:=B6V s d
  refine⟨a,b,Int.le_trans c ?_⟩
  rw [List.length_cons]
  omega
theorem A4c {s:Stt} (h:Q1 s=true) (h5:s.lows.length=5):∀ e∈s.l,G7 e.key:=fun e he=>((A2F h5 h).l e he).key
theorem A9s (s:Stt) (l:List D) (d:D):A2l s (l++[d])=(doS (A2l s l) d).1:=by
 unfold A2l
 rw [List.foldl_append]
 rfl
theorem _root_.Go.Vc.Old.new {w x x':World} {cs:List Value} {T g:Nat} (hk:Old w x) (h:New x cs T g x'):¬ g<w.heap.size:=by
 have h1:=hk.2
 have h2:=h.1
 omega
end Go.Proofs.YtfekddndgakneaaGreatDoor
namespace Go.Proofs.YtfekddndgakneaaGreatDoor
open Go.Vc Go.RowKit Go.Fl Go.ChangeShapes Go.WideShapes Go.ChangeAt
structure Scroll where
 s:ByteArray
 pressed:Int
 kept:Bool
structure Chest where
 room:Int
 f:ByteArray->Option Scroll
 k:Nat
def scC (r:Scroll):List Value:=[.string r.s,.int .i64 r.pressed,.bool r.kept]
def sc0:Scroll:=⟨⟨#[]⟩,0,false⟩
def scD (r:Scroll):DataW Unit:=.agg [.lit (.string r.s.data.toList),.lit (.int .i64 r.pressed),.lit (.bool r.kept)]
def scR:Value->Option (DataW Unit × List MemPlace)
 | .agg cs=>match cs.toList with
  | [.string s,.int .i64 p,.bool k]=>some (scD ⟨s,p,k⟩,[])
  | _=>none
 | _=>none
theorem B2M (r:Scroll):scR (.agg (scC r).toArray)=some (scD r,[]):=rfl
theorem A7u {a b:Scroll} (h:scD a=scD b):a=b:=by
 obtain⟨s,p,k⟩:=a
 obtain⟨s',p',k'⟩:=b
 unfold scD at h
 injection h with h
 injection h with h1 h2
 injection h2 with h2 h3
 injection h3 with h3 h4
 injection h1 with h1
 injection h1 with h1
 injection h2 with h2
 injection h2 with _ h2
 injection h3 with h3
 injection h3 with h3
 have h1:s.data.toList=s'.data.toList:=h1
 have e:s=s':=C5.1 (beq_iff_eq.2 h1)
 have h2:p=p':=h2
 have h3:k=k':=h3
 subst e h2 h3
 rfl
theorem A7v {v:Value} {d:DataW Unit} {ps:List MemPlace} (h:scR v=some (d,ps)):∃ r,v=.agg (scC r).toArray/\d=scD r:=by
 unfold scR at h
 split at h
 ·rename_i cs
  split at h
  ·rename_i s p k e
   cases h
   refine⟨⟨s,p,k⟩,?_,rfl⟩
   show Value.agg cs=.agg (scC ⟨s,p,k⟩).toArray
   rw [show scC ⟨s,p,k⟩=cs.toList from e.symm,Array.toArray_toList]
  ·cases h
 ·cases h
def MapC (b k:Nat) (f:ByteArray->Option Scroll) (w:World):Prop:=
 ∃ D:DataW Unit,w.ownsMap Tryz.prog 9 scR b k D/\Maps.size D=k/\∀ x:ByteArray,x.size<=maxLen->Maps.has D (.string x.data.toList)=(f x).isSome/\∀ r,f x=some r->D.atKey (.string x.data.toList) (scD sc0)=scD r
theorem MapC.eq {b k:Nat} {f:ByteArray->Option Scroll} {w w':World} (h:MapC b k f w) (e:w'.heap[b]?=w.heap[b]?):MapC b k f w':=by
 obtain⟨D,⟨es,clock,h1,h2⟩,h3⟩:=h
 exact⟨D,⟨es,clock,e.trans h1,h2⟩,h3⟩
theorem MapC.lt {b k:Nat} {f:ByteArray->Option Scroll} {w:World} (h:MapC b k f w):b<w.heap.size:=by
 obtain⟨D,h,_⟩:=h
 exact h.lt
theorem B2N:Tryz.prog.underlying 174=some (.map 9 190):=Tryz.underlying174
theorem B5O (w:World):(zeroValue 190).run Tryz.prog w=.ok (.agg (scC sc0).toArray) w:=by kernel_rfl
theorem A1i:Maps.Keyed Tryz.prog 9:=Maps.string_keyed Tryz.underlying9
theorem B8c {x:ByteArray} (h:x.size<=maxLen):keyOf Tryz.prog 9 (.string x)=some (.string x.data.toList):=WideMaps.keyOf_string_mk Tryz.underlying9 h
theorem A5Y {x y:ByteArray} (h:x≠y):(Lit.string x.data.toList)≠.string y.data.toList:=fun e=>h (by
 injection e with e
 exact C5.1 (beq_iff_eq.2 e))
theorem MapC.made (w:World):MapC w.heap.size 0 (fun _=>none) (w.alloc (.map #[] 0)):=
 ⟨.map [],World.ownsMap_made w _ _ _,rfl,fun x _=>⟨rfl,fun s h=>by cases h⟩⟩
theorem B2O {D:DataW Unit} {f:ByteArray->Option Scroll} {x:ByteArray} (h:Maps.has D (.string x.data.toList)=(f x).isSome/\∀ r,f x=some r->D.atKey (.string x.data.toList) (scD sc0)=scD r):D.atKey (.string x.data.toList) (scD sc0)=scD ((f x).getD sc0):=by
 cases e:f x with
 | none=>
  rw [e] at h
  exact Maps.atKey_of_not_has h.1 _
 | some r=>exact h.2 r e
theorem MapC.look_ok {b k:Nat} {f:ByteArray->Option Scroll} {w:World} (h:MapC b k f w) {x:ByteArray} (hx:x.size<=maxLen):(Instr.lookup 174 (.map (some b)) (.string x) true).run Tryz.prog w=.ok (.tuple #[.agg (scC ((f x).getD sc0)).toArray,.bool (f x).isSome]) w:=by
 obtain⟨D,hD,_,hf⟩:=h
 obtain⟨v,ps,hr,hv⟩:=hD.look_ok A1i B2N (B5O w) (B2M sc0) (B8c hx)
 rw [B2O (hf x hx)] at hv
 obtain⟨r,rfl,hd⟩:=A7v hv
 rw [(hf x hx).1,<-A7u hd] at hr
 exact hr
theorem MapC.look {b k:Nat} {f:ByteArray->Option Scroll} {w:World} (h:MapC b k f w) {x:ByteArray} (hx:x.size<=maxLen):(Instr.lookup 174 (.map (some b)) (.string x) false).run Tryz.prog w=.ok (.agg (scC ((f x).getD sc0)).toArray) w:=by
 obtain⟨D,hD,_,hf⟩:=h
 obtain⟨v,ps,hr,hv⟩:=hD.lookup A1i B2N (B5O w) (B2M sc0) (B8c hx)
 rw [B2O (hf x hx)] at hv
 obtain⟨r,rfl,hd⟩:=A7v hv
 rw [<-A7u hd] at hr
 exact hr
def A2b (f:ByteArray->Option Scroll) (x:ByteArray) (r:Scroll):ByteArray->Option Scroll:=fun y=>if y=x then some r else f y
def B5P (f:ByteArray->Option Scroll) (x:ByteArray):ByteArray->Option Scroll:=fun y=>if y=x then none else f y
def A4d (f:ByteArray->Option Scroll) (k:Nat) (x:ByteArray):Nat:=if (f x).isSome then k else k+1
def B5Q (f:ByteArray->Option Scroll) (k:Nat) (x:ByteArray):Nat:=if (f x).isSome then k-1 else k
theorem A1j {P:Program} {t:TypeId} {R:Value->Option (DataW Unit × List MemPlace)} {w:World} {b n:Nat} {D:DataW Unit} (h:w.ownsMap P t R b n D):w.ownsMap P t R b (Maps.size D) D:=by
 obtain⟨es,clock,h1,h2,h3,rfl⟩:=h
 exact⟨es,clock,h1,h2,by simp [Maps.size,length_sorted],rfl⟩
theorem MapC.store {b k:Nat} {f:ByteArray->Option Scroll} {w:World} (h:MapC b k f w) {x:ByteArray} (hx:x.size<=maxLen) (hk:k<1000000) (r:Scroll):
  ∃ w',(Instr.mapUpdate 174 (.map (some b)) (.string x) (.agg (scC r).toArray)).run Tryz.prog w=.ok () w'/\w.grownBy w' (some b)/\w'.heap.size=w.heap.size/\MapC b (A4d f k x) (A2b f x r) w':=by
 obtain⟨D,hD,hz,hf⟩:=h
 obtain⟨w',h1,h2,h3⟩:=hD.store A1i B2N (Nat.lt_of_lt_of_le hk (by decide)) (B8c hx) (B2M r)
 have hI:=hD.isMap
 have hkl:WideAt.IsKeyLit (.string x.data.toList):=trivial
 have hsz:=Maps.size_put (k:=.string x.data.toList) (hD.tidy A1i) (scD r)
 have h2':=A1j h2
 have e:Maps.size (D.put (.string x.data.toList) (scD r))=A4d f k x:=by
  rw [hsz,(hf x hx).1,hz]
  rfl
 rw [e] at h2'
 refine⟨w',h1,h3.grown,?_,_,h2',e,fun y hy=>?_⟩
 ·obtain⟨es,clock,es',clock',_,rfl⟩:=h3
  simp [ChangeMaps.setBlock]
 unfold A2b
 by_cases hyx:y=x
 ·subst hyx
  rw [if_pos rfl]
  refine⟨Maps.has_put_same hI hkl _,fun t ht=>?_⟩
  rw [Maps.atKey_put_same hI hkl]
  cases ht
  rfl
 ·rw [if_neg hyx]
  exact⟨(Maps.has_put_other (A5Y hyx) _).trans (hf y hy).1,fun t ht=>(Maps.atKey_put_other (A5Y hyx) _ _).trans ((hf y hy).2 t ht)⟩
theorem B9R {P:Program} {ts cs} {ty:TypeId} {args:Array Value} {w w':World} {v:Value} (h:(Builtin.delete_ ts ty args).run P w=.ok v w'):(builtin .delete ts ty cs args).run P w=.ok (.value v) w':=by
 show ((do pure (Next.value (<-Builtin.delete_ ts ty args))):Sem Next).run P w=_
 rw [Sem.run_bind,h]
 rfl
theorem MapC.drop {b k:Nat} {f:ByteArray->Option Scroll} {w:World} (h:MapC b k f w) {x:ByteArray} (hx:x.size<=maxLen) (ty:TypeId) (cs:Array Bool):
  ∃ w',(builtin .delete #[174,9] ty cs #[.map (some b),.string x]).run Tryz.prog w=.ok (.value (.tuple #[])) w'/\w.grownBy w' (some b)/\w'.heap.size=w.heap.size/\MapC b (B5Q f k x) (B5P f x) w':=by
 obtain⟨D,hD,hz,hf⟩:=h
 obtain⟨w',h1,h2,h3⟩:=hD.drop A1i B2N (B8c hx) ty
 have hsz:=Maps.size_del (k:=.string x.data.toList) (hD.tidy A1i)
 have h2':=A1j h2
 have e:Maps.size (D.del (.string x.data.toList))=B5Q f k x:=by
  rw [(hf x hx).1,hz] at hsz
  unfold B5Q
  split
  ·rename_i h
   rw [h] at hsz
   simp only [if_true] at hsz
   omega
  ·rename_i h
   rw [if_neg h] at hsz
   omega
 rw [e] at h2'
 refine⟨w',B9R h1,h3.grown,?_,_,h2',e,fun y hy=>?_⟩
 ·obtain⟨es,clock,es',clock',_,rfl⟩:=h3
  simp [ChangeMaps.setBlock]
 unfold B5P
 by_cases hyx:y=x
 ·subst hyx
  rw [if_pos rfl]
  exact⟨Maps.has_del_same,fun t ht=>by cases ht⟩
 ·rw [if_neg hyx]
  exact⟨(Maps.has_del_other (A5Y hyx)).trans (hf y hy).1,fun t ht=>(Maps.atKey_del_other (A5Y hyx) _).trans ((hf y hy).2 t ht)⟩
def A3e (s:ByteArray):Bool:=s.data.toList.all (fun c=>65<=c&&c<=90)&&decide (1<=s.size)&&decide (s.size<=10)
theorem B2P (c:UInt8) (w:World):Calls Tryz.prog 235 #[.int .u8 (c.toNat:Int)] w (C7 (.bool (!(65<=c&&c<=90))) w):=by
 refine vE Tryz.func235 ?_
 have h1:(65<=c)↔(65:Int)<=(c.toNat:Int):=by rw [UInt8.le_iff_toNat_le];show 65<=c.toNat↔_;omega
 have h2:(c<=90)↔(c.toNat:Int)<=(90:Int):=by rw [UInt8.le_iff_toNat_le];show c.toNat<=90↔_;omega
 by_cases h:(c.toNat:Int)<65
 ·refine dt h ?_
  refine⟨B7 ?_,Below.refl _ _⟩
  have e:¬ 65<=c:=by rw [h1];omega
  simp [e]
 ·refine df h ?_
  have e:65<=c:=by rw [h1];omega
  refine⟨B7 ?_,Below.refl _ _⟩
  have e2:decide ((90:Int)<(c.toNat:Int))=!(decide (65<=c)&&decide (c<=90)):=by
   rw [decide_eq_true e]
   by_cases h3:c<=90
   ·rw [decide_eq_true h3,decide_eq_false (by rw [h2] at h3;omega)]
    rfl
   ·rw [decide_eq_false h3,decide_eq_true (by rw [h2] at h3;omega)]
    rfl
  exact e2
theorem A5Z {α:Type} (p:α->Bool) (l:List α):decide (0<=B3Q (l.findIdx? p))=l.any p:=by
 rw [<-List.findIdx?_isSome]
 cases l.findIdx? p with
 | none=>rfl
 | some i=>exact decide_eq_true (Int.natCast_nonneg i)
theorem A3f {α:Type} (p:α->Bool) (l:List α) (i:Nat) (hi:i<l.length) (hp:p l[i]=true) (h:∀ j (hj:j<l.length),j<i->p l[j]=false):l.findIdx? p=some i:=
 List.findIdx?_eq_some_iff_getElem.2 ⟨hi,hp,fun j hj=>by rw [h j (by omega) hj];exact Bool.false_ne_true⟩
theorem A3g {α:Type} (p:α->Bool) (l:List α) (h:∀ j (hj:j<l.length),p l[j]=false):l.findIdx? p=none:=
 List.findIdx?_eq_none_iff.2 fun x hx=>by
  obtain⟨j,hj,rfl⟩:=List.getElem_of_mem hx
  exact h j hj
def B4R (c:UInt8):Bool:=!(65<=c&&c<=90)
theorem A4C (l:List UInt8) (A:Option Addr) (n cap:Nat) (hn:n=l.length) (S:Nat->Prop) (w:World) (hR:Row S w A n cap (bv l)):
  Calls Tryz.prog 261 #[.slice A n cap,.func (.func 235) #[] #[]] w (C7 (.int .i64 (B3Q (l.findIdx? B4R))) w):=by
 refine vE Tryz.func261 ?_
 subst hn
 have hM:l.length<=9223372036854775807:=Nat.le_trans hR.1 hR.2.1
 refine⟨Nat,fun i=>[(0,.slice A l.length cap),(1,.func (.func 235) #[] #[]),(7,.int .i64 l.length),(8,.int .i64 i)],
  fun i w'=>i<=l.length/\(∀ j (hj:j<l.length),j<i->B4R l[j]=false)/\Below w.heap.size w w',fun i _=>l.length-i,0,
  ⟨rfl,rfl,rfl,rfl,trivial⟩,⟨Nat.zero_le _,fun j hj h=>absurd h (Nat.not_lt_zero _),Below.refl _ _⟩,?_⟩
 rintro i w' u ⟨hi,he,hb⟩
 by_cases hlt:i<l.length
 ·refine dt (by omega) ?_
  obtain⟨ad,rfl,hcell⟩:=(hR.below hb).at (A4I l i hlt)
  refine⟨⟨by omega,by omega⟩,?_⟩
  refine⟨_,by rw [Nat.mul_one,Int.toNat_natCast];exact hcell,?_⟩
  have e:l.getD i 0=l[i]:=by rw [List.getD_eq_getElem?_getD,List.getElem?_eq_getElem hlt];rfl
  rw [e]
  refine C2 (B2P l[i] w') ?_
  intro w2 h2
  have hb2:=hb.trans (h2.mono hb.size)
  rcases Bool.eq_false_or_eq_true (B4R l[i]) with hv | hv
  ·refine B6 hv ?_
   refine⟨?_,hb2⟩
   rw [A3f B4R l i hlt hv he]
   rfl
  ·refine B4 hv ?_
   refine⟨i+1,⟨rfl,rfl,rfl,congrArg _ (C1 (by omega)),trivial⟩,⟨hlt,fun j hj h=>?_,hb2⟩,by show l.length-(i+1)<l.length-i;omega⟩
   rcases Nat.lt_succ_iff_lt_or_eq.1 h with h | h
   ·exact he j hj h
   ·subst h;exact hv
 ·refine df (by omega) ?_
  refine⟨?_,hb⟩
  rw [A3g B4R l (fun j hj=>he j hj (by omega))]
  rfl
theorem A2H (l:List UInt8) (A:Option Addr) (n cap:Nat) (hn:n=l.length) (S:Nat->Prop) (w:World) (hR:Row S w A n cap (bv l)):
  Calls Tryz.prog 234 #[.slice A n cap,.func (.func 235) #[] #[]] w (C7 (.bool (l.any B4R)) w):=by
 refine vE Tryz.func234 ?_
 refine C2 (A4C l A n cap hn S w hR) ?_
 intro w2 h2
 exact⟨B7 (A5Z B4R l),h2⟩
theorem A81 (s:ByteArray) (hs:s.size<=9223372036854775807) (w:World):Calls Tryz.prog 203 #[.string s] w (C7 (.bool (A3e s)) w):=by
 refine vE Tryz.func203 ?_
 refine A1G no Tryz.underlying9 Tryz.underlying45 Tryz.underlying5 hs ?_
 intro g cap w1 hb hR
 refine C2 (A2H s.data.toList _ _ cap rfl _ w1 hR) ?_
 intro w2 h2
 have hb2:=hb.trans (h2.mono hb.size)
 have e:s.data.toList.any B4R=!(s.data.toList.all (fun c=>65<=c&&c<=90)):=by
  unfold B4R
  rw [List.not_all_eq_any_not]
 rw [e]
 unfold A3e
 rcases Bool.eq_false_or_eq_true (s.data.toList.all fun c=>65<=c&&c<=90) with h | h
 ·rw [h]
  by_cases h1:(1:Int)<=(s.size:Int)
  ·refine dt h1 ?_
   exact⟨B7 (by rw [decide_eq_true (show 1<=s.size by omega)];simp;omega),hb2⟩
  ·refine df h1 ?_
   exact⟨B7 (by rw [decide_eq_false (show ¬ 1<=s.size by omega)];rfl),hb2⟩
 ·rw [h]
  exact⟨rfl,hb2⟩
def MapK (b k:Nat) (f:ByteArray->Option Scroll):Kn:=fun S w=>S b/\MapC b k f w
theorem MapK.stab (b k:Nat) (f:ByteArray->Option Scroll):Stab (MapK b k f):=fun S w S' w' h g=>⟨g.1 _ h.1,h.2.eq (g.2 _ h.1)⟩
def chC (room:Int) (b:Nat):List Value:=[.int .i64 room,.map (some b)]
def ChestK (gc b:Nat) (C:Chest):Kn:=fun S w=>S gc/\S b/\gc≠b/\Blk w gc 176 (chC C.room b)/\MapC b C.k C.f w
theorem ChestK.stab (gc b:Nat) (C:Chest):Stab (ChestK gc b C):=fun S w S' w' h g=>⟨g.1 _ h.1,g.1 _ h.2.1,h.2.2.1,h.2.2.2.1.of_eq (g.2 _ h.1),h.2.2.2.2.eq (g.2 _ h.2.1)⟩
def RetOb (Sa:Nat->Prop) (w:World) (v:Value) (O:Kn) (en:Ending) (w':World):Prop:=
 en=.returned v/\Turn Sa w w'/\∃ Sn:Nat->Prop,(∀ x,Sn x->(Sa x\/w.heap.size<=x)/\x<w'.heap.size)/\O Sn w'
theorem ChestK.enter {gc b:Nat} {C:Chest} {Sa:Nat->Prop} {w:World} (h:ChestK gc b C Sa w):CtxF no (bare w) (fun x=>x<w.heap.size/\x≠gc) w [(gc,176,chC C.room b)] [] (Sep 0 (Keep w Sa) (MapK b C.k C.f)):=by
 obtain⟨h1,h2,h3,h4,h5⟩:=h
 refine CtxF.enter (fun x hx=>hx.1) ⟨Nat.zero_le _,fun h=>h.2 rfl,h4,(fun x hx=>by cases hx),trivial⟩ trivial ⟨fun x=>x<w.heap.size/\¬ Sa x,fun x=>x=b,fun x hx=>⟨⟨hx.1,fun e=>hx.2 (e▸h1)⟩,fun e=>hx.2 (e▸h2)⟩,fun x hx=>⟨⟨hx▸h5.lt,fun e=>h3 (e▸hx)⟩,Nat.zero_le _⟩,fun x hx hg=>⟨⟨hx,hg⟩,rfl⟩,rfl,h5⟩ (Sep.stab (Keep.stab _ _) (MapK.stab _ _ _))
theorem ChestK.leave {gc b k:Nat} {room:Int} {f:ByteArray->Option Scroll} {Sa S:Nat->Prop} {w w':World} (hg:Sa gc) (hb:Sa b) (hne:gc≠b) (hc:CtxF no (bare w) S w' [(gc,176,chC room b)] [] (Sep 0 (Keep w Sa) (MapK b k f))) (v:Value):RetOb Sa w v (ChestK gc b ⟨room,f,k⟩) (Ending.returned v) w':=by
 obtain⟨S1,Sb,h1,h2,h3,h4⟩:=hc.row
 refine⟨rfl,hc.leave h3,fun x=>x=gc\/x=b,fun x hx=>?_,.inl rfl,.inr rfl,hne,hc.blk 0 rfl,h4.2⟩
 rcases hx with rfl | rfl
 ·exact⟨.inl hg,(hc.blk 0 rfl).lt⟩
 ·exact⟨.inl hb,h4.2.lt⟩
theorem _root_.Go.Vc.CtxF.mapc {w0 w w':World} {S:Nat->Prop} {l:List LB} {os:List OR} {R:Kn} {b k k':Nat} {f f':ByteArray->Option Scroll} (hc:CtxF no w0 S w l os (Sep w0.heap.size R (MapK b k f))) (hR:Stab R) (hg:w.grownBy w' (some b)) (hm:MapC b k' f' w'):
  ∃ S',CtxF no w0 S' w' l os (Sep w0.heap.size R (MapK b k' f')):=by
 obtain⟨S1,Sb,h1,h2,h3,h4⟩:=hc.row
 refine⟨_,hc.turnO hR h1 h2 h3 (Sn:=fun x=>x=b) ⟨hg.os,hg.tape,hg.output,fun x hx hn=>hg.block x hx (fun e=>hn (by rw [Option.some.inj e];exact h4.1))⟩ (fun x hx=>?_) ⟨rfl,hm⟩ (MapK.stab _ _ _)⟩
 have hx:x=b:=hx
 subst hx
 exact⟨.inl h4.1,hm.lt⟩
theorem _root_.Go.Vc.CtxF.mapOf {w0 w:World} {S:Nat->Prop} {l:List LB} {os:List OR} {R:Kn} {n b k:Nat} {f:ByteArray->Option Scroll} (hc:CtxF no w0 S w l os (Sep n R (MapK b k f))):MapC b k f w:=(hc.row.right (MapK.stab _ _ _)).2
theorem ChestK.now {w0 w:World} {S:Nat->Prop} {l:List LB} {os:List OR} {R:Kn} {n gc b k:Nat} {room:Int} {f:ByteArray->Option Scroll} (hc:CtxF no w0 S w l os (Sep n R (MapK b k f))) (i:Nat) (hi:l[i]?=some (gc,176,chC room b)) (hne:gc≠b):ChestK gc b ⟨room,f,k⟩ (fun x=>x=gc\/x=b) w:=
 ⟨.inl rfl,.inr rfl,hne,hc.blk i hi,hc.mapOf⟩
theorem A7w (g:Nat) (ox oy:Operand) (w:World):(do eqGuard BinOp.eql 130 ox oy (.pointer (some ⟨g,0,none⟩)) (.pointer none);Go.binOp BinOp.eql 130 (.pointer (some ⟨g,0,none⟩)) (.pointer none):Sem Value).run Tryz.prog w=.ok (.bool false) w:=by kernel_rfl
theorem A3h (gc b:Nat) (C:Chest) (x:ByteArray) (hx:x.size<=9223372036854775807) (S:Nat->Prop) (w:World) (hK:ChestK gc b C S w):
  Calls Tryz.prog 204 #[.pointer (some ⟨gc,0,none⟩),.string x] w (C7 (.tuple #[.agg (scC ((C.f x).getD sc0)).toArray,.int .i64 (if (C.f x).isSome then 0 else 6)]) w):=by
 refine vE Tryz.func204 ?_
 have hc:=CtxF.start w (fun x=>x=gc\/x=b) (fun x hx=>hx.elim (fun e=>e▸hK.2.2.2.1.lt) (fun e=>e▸hK.2.2.2.2.lt)) (R:=ChestK gc b C) ⟨.inl rfl,.inr rfl,hK.2.2⟩ (ChestK.stab _ _ _)
 refine hc.n fun g4 wg4 hg4 hc=>?_
 refine⟨.bool false,fun w=>A7w gc _ _ w,?_⟩
 refine⟨_,(hc.row.2.2.2.1.cell 1).trans rfl,?_⟩
 refine⟨_,_,hc.row.2.2.2.2.look_ok hx,?_⟩
 refine hc.n fun g6 wg6 hg6 hc=>?_
 refine hc.s 0 rfl fun wS hS hc=>?_
 cases e:C.f x with
 | none=>
  rw [e] at hc
  refine hc.s 1 rfl fun wS hS hc=>?_
  refine hc.a 1 rfl rfl ?_
  exact⟨rfl,hc.below⟩
 | some r=>
  rw [e] at hc
  refine hc.a 0 rfl rfl ?_
  refine hc.s 1 rfl fun wS hS hc=>?_
  refine hc.a 1 rfl rfl ?_
  exact⟨rfl,hc.below⟩
def N0 (C:Chest) (to s:ByteArray):Chest × Int:=
 if A3e to then
  if C.room<(s.size:Int) then (C,5)
  else (⟨C.room-s.size,A2b C.f to ⟨((C.f to).getD sc0).s++s,((C.f to).getD sc0).pressed,((C.f to).getD sc0).kept⟩,A4d C.f C.k to⟩,0)
 else (C,1)
theorem A0W (gc b:Nat) (C:Chest) (to s:ByteArray) (hto:to.size<=9223372036854775807) (hr : -1000000000000<=C.room/\C.room<=1000000000000) (hs:s.size<=1000000000000) (hl:((C.f to).getD sc0).s.size<=1000000000000) (hkk:C.k<1000000) (Sa:Nat->Prop) (w:World) (hK:ChestK gc b C Sa w):
  Calls Tryz.prog 205 #[.pointer (some ⟨gc,0,none⟩),.string to,.string s] w (RetOb Sa w (.int .i64 (N0 C to s).2) (ChestK gc b (N0 C to s).1)):=by
 obtain⟨q,hq⟩:∃ q,q=N0 C to s:=⟨_,rfl⟩
 rw [<-hq]
 unfold N0 at hq
 have hg:=hK.1
 have hb:=hK.2.1
 have hne:=hK.2.2.1
 have hc:=hK.enter
 refine vE Tryz.func205 ?_
 refine⟨.bool false,fun w=>A7w gc _ _ w,?_⟩
 refine hc.q (A81 to hto _) fun wQ hQ hc=>?_
 cases hn:A3e to with
 | false=>
  rw [hn] at hq
  subst hq
  exact ChestK.leave hg hb hne hc _
 | true=>
  rw [hn,if_pos rfl] at hq
  refine hc.c 0 rfl rfl ?_
  by_cases hx:C.room<(s.size:Int)
  ·rw [if_pos hx] at hq
   subst hq
   refine dt hx ?_
   exact ChestK.leave hg hb hne hc _
  rw [if_neg hx] at hq
  refine df hx ?_
  refine hc.c 0 rfl rfl ?_
  refine⟨_,_,hc.mapOf.look hto,?_⟩
  refine hc.n fun g7 wg7 hg7 hc=>?_
  refine hc.s 0 rfl fun wS hS hc=>?_
  refine hc.c 0 rfl rfl ?_
  refine⟨by simp only [ByteArray.size] at *;omega,?_⟩
  refine hc.s 0 rfl fun wS hS hc=>?_
  have hr:=hc
  refine vD (.Q [0,1,2,3,4,5] (.z 6)) (Old _) (Old.start _) ?_
  have hk:=hc.old0
  have hc:=hc.drew
  refine⟨_,fun x hx=>Keeps.cell hx (hr.blk 1 rfl) (hr.blk 1 rfl).lt rfl,?_⟩
  refine⟨_,?_,fun x hx=>Keeps.cells hx (hr.blk 0 rfl) (hr.blk 0 rfl).lt,?_⟩
  ·rfl
  obtain⟨wm,hm1,hm2,_,hm3⟩:=hc.mapOf.store hto hkk ⟨((C.f to).getD sc0).s++s,((C.f to).getD sc0).pressed,((C.f to).getD sc0).kept⟩
  refine⟨wm,hm1,?_⟩
  obtain⟨S',hc⟩:=hc.mapc (Keep.stab _ _) hm2 hm3
  refine hc.c 1 rfl rfl ?_
  refine hc.s 1 rfl fun wS hS hc=>?_
  rw [show IntKind.i64.wrap (C.room-(s.size:Int))=C.room-s.size from IntWalk.i64_in _ ⟨by omega,by omega⟩] at hc
  subst hq
  exact ChestK.leave hg hb hne hc.drop _
def A0z (C:Chest) (x:ByteArray):Chest × Int:=
 match C.f x with
 | none=>(C,6)
 | some r=>(⟨C.room,A2b C.f x ⟨r.s,r.s.size,true⟩,A4d C.f C.k x⟩,0)
theorem A3i (gc b:Nat) (C:Chest) (x:ByteArray) (hx:x.size<=9223372036854775807) (hkk:C.k<1000000) (Sa:Nat->Prop) (w:World) (hK:ChestK gc b C Sa w):
  Calls Tryz.prog 206 #[.pointer (some ⟨gc,0,none⟩),.string x] w (RetOb Sa w (.int .i64 (A0z C x).2) (ChestK gc b (A0z C x).1)):=by
 obtain⟨q,hq⟩:∃ q,q=A0z C x:=⟨_,rfl⟩
 rw [<-hq]
 unfold A0z at hq
 have hg:=hK.1
 have hb:=hK.2.1
 have hne:=hK.2.2.1
 have hc:=hK.enter
 have hh:=A3h gc b C x hx _ _ hK
 refine vE Tryz.func206 ?_
 cases e:C.f x with
 | none=>
  rw [e] at hq hh
  simp only at hq
  refine hc.q (hh) fun wQ hQ hc=>?_
  refine hc.n fun g5 wg5 hg5 hc=>?_
  refine hc.s 0 rfl fun wS hS hc=>?_
  subst hq
  exact ChestK.leave hg hb hne hc.drop _
 | some r=>
  rw [e] at hq hh
  simp only at hq
  refine hc.q (hh) fun wQ hQ hc=>?_
  refine hc.n fun g5 wg5 hg5 hc=>?_
  refine hc.s 0 rfl fun wS hS hc=>?_
  have hr:=hc
  refine vD (.Q [0,1,2,3,4,5,6,7,8,9,10] (.z 11)) (Old _) (Old.start _) ?_
  have hk:=hc.old0
  have hc:=hc.drew
  refine⟨_,fun x hx=>Keeps.cell hx (hr.blk 1 rfl) (hr.blk 1 rfl).lt rfl,?_⟩
  refine⟨_,fun x hx=>Keeps.cell hx (hr.blk 0 rfl) (hr.blk 0 rfl).lt rfl,?_⟩
  refine⟨_,fun x hx=>Keeps.cell hx (hr.blk 0 rfl) (hr.blk 0 rfl).lt rfl,?_⟩
  obtain⟨wm,hm1,hm2,_,hm3⟩:=hc.mapOf.store hx hkk ⟨r.s,r.s.size,true⟩
  refine⟨wm,hm1,?_⟩
  obtain⟨S',hc⟩:=hc.mapc (Keep.stab _ _) hm2 hm3
  subst hq
  exact ChestK.leave hg hb hne hc.drop _
theorem A0l (gc b:Nat) (C:Chest) (x:ByteArray) (hx:x.size<=9223372036854775807) (S:Nat->Prop) (w:World) (hK:ChestK gc b C S w):
  Calls Tryz.prog 171 #[.pointer (some ⟨gc,0,none⟩),.string x] w (C7 (.tuple #[.string ((C.f x).getD sc0).s,.bool (C.f x).isSome]) w):=by
 have hh:=A3h gc b C x hx _ _ hK
 refine vE Tryz.func171 ?_
 have hc:=CtxF.start w no (fun _ h=>h.elim) (R:=fun _ _=>True) trivial Stab.true
 cases e:C.f x with
 | none=>
  rw [e] at hh
  refine hc.q (hh) fun wQ hQ hc=>?_
  refine hc.n fun g5 wg5 hg5 hc=>?_
  refine hc.s 0 rfl fun wS hS hc=>?_
  refine hc.c 0 rfl rfl ?_
  exact⟨rfl,hc.below⟩
 | some r=>
  rw [e] at hh
  refine hc.q (hh) fun wQ hQ hc=>?_
  refine hc.n fun g5 wg5 hg5 hc=>?_
  refine hc.s 0 rfl fun wS hS hc=>?_
  refine hc.c 0 rfl rfl ?_
  exact⟨rfl,hc.below⟩
theorem A7x (gc b:Nat) (C:Chest) (x:ByteArray) (hx:x.size<=9223372036854775807) (S:Nat->Prop) (w:World) (hK:ChestK gc b C S w):
  Calls Tryz.prog 247 #[.pointer (some ⟨gc,0,none⟩),.string x] w (C7 (.int .i64 ((C.f x).getD sc0).pressed) w):=by
 have hh:=A3h gc b C x hx _ _ hK
 refine vE Tryz.func247 ?_
 have hc:=CtxF.start w no (fun _ h=>h.elim) (R:=fun _ _=>True) trivial Stab.true
 refine hc.q (hh) fun wQ hQ hc=>?_
 refine hc.n fun g5 wg5 hg5 hc=>?_
 refine hc.s 0 rfl fun wS hS hc=>?_
 refine hc.c 0 rfl rfl ?_
 exact⟨rfl,hc.below⟩
theorem B4S (gc b:Nat) (C:Chest) (S:Nat->Prop) (w:World) (hK:ChestK gc b C S w):
  Calls Tryz.prog 248 #[.pointer (some ⟨gc,0,none⟩)] w (C7 (.int .i64 C.room) w):=by
 refine vE Tryz.func248 ?_
 refine⟨.bool false,fun w=>A7w gc _ _ w,?_⟩
 refine⟨_,(hK.2.2.2.1.cell 0).trans rfl,?_⟩
 exact⟨rfl,Below.refl _ _⟩
def A7y (C:Chest) (x:ByteArray) (n:Int):Chest × Int:=
 match C.f x with
 | none=>(C,6)
 | some r=>if n<0\/(r.s.size:Int)<n then (C,4)
  else (⟨C.room+(r.s.size-n),A2b C.f x ⟨r.s.extract 0 n.toNat,if n<r.pressed then n else r.pressed,true⟩,A4d C.f C.k x⟩,0)
theorem A1k (gc b:Nat) (C:Chest) (x:ByteArray) (n:Int) (hx:x.size<=9223372036854775807) (hr : -1000000000000<=C.room/\C.room<=1000000000000) (hl:((C.f x).getD sc0).s.size<=1000000000000) (hkk:C.k<1000000) (Sa:Nat->Prop) (w:World) (hK:ChestK gc b C Sa w):
  Calls Tryz.prog 175 #[.pointer (some ⟨gc,0,none⟩),.string x,.int .i64 n] w (RetOb Sa w (.int .i64 (A7y C x n).2) (ChestK gc b (A7y C x n).1)):=by
 obtain⟨q,hq⟩:∃ q,q=A7y C x n:=⟨_,rfl⟩
 rw [<-hq]
 unfold A7y at hq
 have hg:=hK.1
 have hb:=hK.2.1
 have hne:=hK.2.2.1
 have hc:=hK.enter
 have hh:=A3h gc b C x hx _ _ hK
 refine vE Tryz.func175 ?_
 cases e:C.f x with
 | none=>
  rw [e] at hq hh
  simp only at hq
  refine hc.q (hh) fun wQ hQ hc=>?_
  refine hc.n fun g7 wg7 hg7 hc=>?_
  refine hc.s 0 rfl fun wS hS hc=>?_
  subst hq
  exact ChestK.leave hg hb hne hc.drop _
 | some r=>
  rw [e] at hq hh hl
  rw [show (some r).getD sc0=r from rfl] at hh
  simp only at hq
  have hl:r.s.size<=1000000000000:=hl
  refine hc.q (hh) fun wQ hQ hc=>?_
  refine hc.n fun g7 wg7 hg7 hc=>?_
  refine hc.s 0 rfl fun wS hS hc=>?_
  by_cases h1:n<0
  ·rw [if_pos (.inl h1)] at hq
   subst hq
   refine dt h1 ?_
   exact ChestK.leave hg hb hne hc.drop _
  refine df h1 ?_
  refine hc.c 0 rfl rfl ?_
  by_cases h2:(r.s.size:Int)<n
  ·rw [if_pos (.inr h2)] at hq
   subst hq
   refine dt h2 ?_
   exact ChestK.leave hg hb hne hc.drop _
  rw [if_neg (fun h=>h.elim h1 h2)] at hq
  refine df h2 ?_
  have hw1:IntKind.i64.wrap ((r.s.size:Int)-n)=(r.s.size:Int)-n:=IntWalk.i64_in _ ⟨by omega,by omega⟩
  have hw2:IntKind.i64.wrap (C.room+((r.s.size:Int)-n))=C.room+((r.s.size:Int)-n):=IntWalk.i64_in _ ⟨by omega,by omega⟩
  refine Drawn.join (α:=Unit) (fun _=>[(0,.pointer (some ⟨gc,0,none⟩)),(1,.string x),(2,.int .i64 n),(7,.pointer (some ⟨g7,0,none⟩))])
   (fun _ wS=>∃ S,CtxF no (bare w) S wS [(g7,190,scC r),(gc,176,chC (C.room+((r.s.size:Int)-n)) b)] [] (Sep 0 (Keep w Sa) (MapK b C.k C.f))) ?_ ?_
  ·refine vD (.Q [0,1,2,4,7] (.n 3 (.n 5 (.Q [6,8,9,10,11] (.n 12 .fin .stop)) .stop) (.n 5 (.Q [6,8] (.n 3 (.Q [9,10,11] (.n 12 .fin .stop)) .stop)) .stop))) (fun _=>True) trivial ?_
   have hc:=hc.drew
   refine⟨?_,?_⟩
   ·skip
    refine⟨_,hc.cell 1 rfl _ rfl,trivial,?_⟩
    refine⟨⟨_,hc.cell 0 rfl _ rfl,trivial,?_⟩,trivial⟩
    refine⟨hc.s' 1 rfl fun wS hS hc=>?_,trivial⟩
    rw [hw1,hw2] at hc
    exact⟨(),⟨rfl,rfl,rfl,rfl,trivial⟩,_,hc⟩
   refine⟨⟨_,hc.cell 0 rfl _ rfl,trivial,?_⟩,trivial⟩
   refine⟨⟨_,hc.cell 1 rfl _ rfl,trivial,?_⟩,trivial⟩
   refine⟨hc.s' 1 rfl fun wS hS hc=>?_,trivial⟩
   rw [hw1,hw2] at hc
   exact⟨(),⟨rfl,rfl,rfl,rfl,trivial⟩,_,hc⟩
  clear hc
  rintro⟨⟩ u wS ⟨S,hc⟩
  have hr:=hc
  refine vD (.Q [0,1,2,3,4,5,6,7,8,9,10,11,12,13] (.z 14)) (Old _) (Old.start _) ?_
  have hk:=hc.old0
  have hc:=hc.drew
  refine⟨_,fun x hx=>Keeps.cell hx (hr.blk 1 rfl) (hr.blk 1 rfl).lt rfl,?_⟩
  refine⟨_,fun x hx=>Keeps.cell hx (hr.blk 0 rfl) (hr.blk 0 rfl).lt rfl,?_⟩
  refine⟨⟨by omega,by omega,by omega⟩,?_⟩
  refine⟨_,fun x hx=>Keeps.cell hx (hr.blk 0 rfl) (hr.blk 0 rfl).lt rfl,?_⟩
  obtain⟨wm,hm1,hm2,_,hm3⟩:=hc.mapOf.store hx hkk ⟨r.s.extract 0 n.toNat,if n<r.pressed then n else r.pressed,true⟩
  refine⟨wm,hm1,?_⟩
  obtain⟨S',hc⟩:=hc.mapc (Keep.stab _ _) hm2 hm3
  subst hq
  exact ChestK.leave hg hb hne hc.drop _
def A0X (C:Chest) (x to:ByteArray):Chest × Int:=
 if A3e to then match C.f x with
  | none=>(C,6)
  | some r=>if x=to then (C,0)
   else (⟨C.room+((C.f to).getD sc0).s.size,A2b (B5P C.f x) to ⟨r.s,r.pressed,true⟩,A4d (B5P C.f x) (B5Q C.f C.k x) to⟩,0)
 else (C,1)
theorem B6W (f:ByteArray->Option Scroll) (k:Nat) (x:ByteArray):B5Q f k x<=k:=by
 unfold B5Q
 split<;>omega
theorem A2x (gc b:Nat) (C:Chest) (x to:ByteArray) (hx:x.size<=9223372036854775807) (hto:to.size<=9223372036854775807) (hr : -1000000000000<=C.room/\C.room<=1000000000000) (hl:((C.f to).getD sc0).s.size<=1000000000000) (hkk:C.k<1000000) (Sa:Nat->Prop) (w:World) (hK:ChestK gc b C Sa w):
  Calls Tryz.prog 170 #[.pointer (some ⟨gc,0,none⟩),.string x,.string to] w (RetOb Sa w (.int .i64 (A0X C x to).2) (ChestK gc b (A0X C x to).1)):=by
 obtain⟨q,hq⟩:∃ q,q=A0X C x to:=⟨_,rfl⟩
 rw [<-hq]
 unfold A0X at hq
 have hg:=hK.1
 have hb:=hK.2.1
 have hne:=hK.2.2.1
 have hc:=hK.enter
 refine vE Tryz.func170 ?_
 refine⟨.bool false,fun w=>A7w gc _ _ w,?_⟩
 refine hc.q (A81 to hto _) fun wQ hQ hc=>?_
 cases hn:A3e to with
 | false=>
  rw [hn] at hq
  subst hq
  exact ChestK.leave hg hb hne hc _
 | true=>
  rw [hn,if_pos rfl] at hq
  have hh:=A3h gc b C x hx _ _ (ChestK.now hc 0 rfl hne)
  cases e:C.f x with
  | none=>
   rw [e] at hq hh
   simp only at hq
   refine hc.q (hh) fun wQ hQ hc=>?_
   refine hc.n fun g7 wg7 hg7 hc=>?_
   refine hc.s 0 rfl fun wS hS hc=>?_
   subst hq
   exact ChestK.leave hg hb hne hc.drop _
  | some r=>
   rw [e] at hq hh
   rw [show (some r).getD sc0=r from rfl] at hh
   simp only at hq
   refine hc.q (hh) fun wQ hQ hc=>?_
   refine hc.n fun g7 wg7 hg7 hc=>?_
   refine hc.s 0 rfl fun wS hS hc=>?_
   by_cases h1:x=to
   ·rw [if_pos h1] at hq
    subst hq
    refine B6 (C5.2 h1) ?_
    exact ChestK.leave hg hb hne hc.drop _
   rw [if_neg h1] at hq
   refine B4 (by rw [<-Bool.not_eq_true,C5];exact h1) ?_
   have hw1:IntKind.i64.wrap (C.room+(((C.f to).getD sc0).s.size:Int))=C.room+((C.f to).getD sc0).s.size:=IntWalk.i64_in _ ⟨by omega,by omega⟩
   refine Drawn.join (α:=Unit) (fun _=>[(0,.pointer (some ⟨gc,0,none⟩)),(1,.string x),(2,.string to),(7,.pointer (some ⟨g7,0,none⟩))])
    (fun _ wS=>∃ S,CtxF no (bare w) S wS [(g7,190,scC r),(gc,176,chC (C.room+((C.f to).getD sc0).s.size) b)] [] (Sep 0 (Keep w Sa) (MapK b C.k C.f))) ?_ ?_
   ·refine vD (.Q [0,1,2,4,5,6,8] (.n 3 (.n 7 (.n 9 (.Q [10,11,12,13,14] (.n 15 .fin .stop)) .stop) .stop) (.n 7 (.n 3 (.n 9 (.Q [10,11,12,13,14] (.n 15 .fin .stop)) .stop) (.n 9 (.Q [10,11] (.n 3 (.Q [12,13,14] (.n 15 .fin .stop)) .stop)) .stop)) .stop))) (fun _=>True) trivial ?_
    have hc:=hc.drew
    refine⟨?_,?_⟩
    ·skip
     refine⟨_,hc.cell 1 rfl _ rfl,trivial,?_⟩
     refine⟨⟨_,hc.cell 1 rfl _ rfl,trivial,?_⟩,trivial⟩
     refine⟨⟨_,_,hc.mapOf.look hto,trivial,?_⟩,trivial⟩
     refine⟨hc.s' 1 rfl fun wS hS hc=>?_,trivial⟩
     rw [hw1] at hc
     exact⟨(),⟨rfl,rfl,rfl,rfl,trivial⟩,_,hc⟩
    refine⟨⟨_,hc.cell 1 rfl _ rfl,trivial,?_⟩,trivial⟩
    refine⟨?_,?_⟩
    ·skip
     refine⟨_,hc.cell 1 rfl _ rfl,trivial,?_⟩
     refine⟨⟨_,_,hc.mapOf.look hto,trivial,?_⟩,trivial⟩
     refine⟨hc.s' 1 rfl fun wS hS hc=>?_,trivial⟩
     rw [hw1] at hc
     exact⟨(),⟨rfl,rfl,rfl,rfl,trivial⟩,_,hc⟩
    refine⟨⟨_,_,hc.mapOf.look hto,trivial,?_⟩,trivial⟩
    refine⟨⟨_,hc.cell 1 rfl _ rfl,trivial,?_⟩,trivial⟩
    refine⟨hc.s' 1 rfl fun wS hS hc=>?_,trivial⟩
    rw [hw1] at hc
    exact⟨(),⟨rfl,rfl,rfl,rfl,trivial⟩,_,hc⟩
   clear hc
   rintro⟨⟩ u wS ⟨S,hc⟩
   refine hc.c 1 rfl rfl ?_
   obtain⟨wm,hm1,hm2,_,hm3⟩:=hc.mapOf.drop hx 0 _
   refine⟨_,wm,hm1,?_⟩
   obtain⟨S',hc⟩:=hc.mapc (Keep.stab _ _) hm2 hm3
   have hr:=hc
   refine vD (.Q [0,1,2,3,4,5,6,7,8,9] (.z 10)) (Old _) (Old.start _) ?_
   have hk:=hc.old0
   have hc:=hc.drew
   refine⟨_,fun x hx=>Keeps.cell hx (hr.blk 1 rfl) (hr.blk 1 rfl).lt rfl,?_⟩
   refine⟨_,fun x hx=>Keeps.cell hx (hr.blk 0 rfl) (hr.blk 0 rfl).lt rfl,?_⟩
   refine⟨_,fun x hx=>Keeps.cell hx (hr.blk 0 rfl) (hr.blk 0 rfl).lt rfl,?_⟩
   obtain⟨wn,hn1,hn2,_,hn3⟩:=hc.mapOf.store hto (Nat.lt_of_le_of_lt (B6W _ _ _) hkk) ⟨r.s,r.pressed,true⟩
   refine⟨wn,hn1,?_⟩
   obtain⟨S'',hc⟩:=hc.mapc (Keep.stab _ _) hn2 hn3
   subst hq
   exact ChestK.leave hg hb hne hc.drop _
def B74 (n:Int):Chest:=⟨if (1048576:Int)<(if 0 > n then 0 else n) then 1048576 else (if 0 > n then 0 else n),fun _=>none,0⟩
theorem A7z (n:Int) (w:World):Calls Tryz.prog 88 #[.int .i64 n] w (fun en w'=>∃ gc b,en=.returned (.pointer (some ⟨gc,0,none⟩))/\Below w.heap.size w w'/\ChestK gc b (B74 n) (ext no w w') w'):=by
 refine vE Tryz.func88 ?_
 have hc:=CtxF.start w no (fun _ h=>h.elim) (R:=fun _ _=>True) trivial Stab.true
 refine⟨_,_,run_makeMap _ _,?_⟩
 have hb:Below w.heap.size w (w.alloc (.map #[] 0)):=(Below.refl _ _).alloc (Nat.le_refl _) _
 have hs:(w.alloc (.map #[] 0)).heap.size=w.heap.size+1:=Array.size_push ..
 intro g w1 h1
 have hg:g=w.heap.size+1:=h1.1.trans hs
 have hl:=h1.blk.lt
 exact⟨g,w.heap.size,rfl,hb.trans (h1.below.mono (by omega)),.inr ⟨by omega,hl⟩,.inr ⟨Nat.le_refl _,by omega⟩,by omega,h1.blk,(MapC.made w).eq (h1.below.block _ (by omega))⟩
theorem B6X {D:DataW Unit} (hT:Maps.Tidy D) (h1:Maps.size D=1) {a b:Lit} (ha:Maps.has D a=true) (hb:Maps.has D b=true):a=b:=by
 obtain⟨es,rfl,_⟩:=hT
 rw [Maps.size_eq] at h1
 rw [Maps.has_eq] at ha hb
 match es,h1 with
 | [p],_=>
  simp only [List.any_cons,List.any_nil,Bool.or_false] at ha hb
  exact (WideAt.sameKey_eq ha).symm.trans (WideAt.sameKey_eq hb)
def RangeK (b r:Nat) (x:ByteArray) (s:Scroll) (o:Option Obj) (more:Bool):Kn:=fun S w=>S b/\S r/\b≠r/\w.heap[b]?=o/\
 ∃ (D:DataW Unit) (left:Lit->Bool) (cnt:Nat),w.ranges Tryz.prog 9 scR b r 1 D left cnt/\(∀ l,left l=true->l=.string x.data.toList)/\D.atKey (.string x.data.toList) (scD sc0)=scD s/\
  (more=true->left (.string x.data.toList)=true)/\(more=false->∀ l,left l=false)
theorem B2Q {P:Program} {t:TypeId} {R:Value->Option (DataW Unit × List MemPlace)} {w w':World} {b r n cnt:Nat} {D:DataW Unit} {left:Lit->Bool} (h:w.ranges P t R b r n D left cnt) (e1:w'.heap[b]?=w.heap[b]?) (e2:w'.heap[r]?=w.heap[r]?):w'.ranges P t R b r n D left cnt:=by
 obtain⟨es,clock,since,seen,c0,hb,F,hs,hD,hr,rest⟩:=h
 exact⟨es,clock,since,seen,c0,e1.trans hb,F,hs,hD,e2.trans hr,rest⟩
theorem RangeK.stab (b r:Nat) (x:ByteArray) (s:Scroll) (o:Option Obj) (more:Bool):Stab (RangeK b r x s o more):=fun S w S' w' h g=>by
 obtain⟨h1,h2,h3,h4,D,left,cnt,h5,h6⟩:=h
 exact⟨g.1 _ h1,g.1 _ h2,h3,(g.2 _ h1).trans h4,D,left,cnt,B2Q h5 (g.2 _ h1) (g.2 _ h2),h6⟩
theorem B4T {b:Nat} {f:ByteArray->Option Scroll} {w:World} {x:ByteArray} {s:Scroll} (h:MapC b 1 f w) (hx:x.size<=maxLen) (hf:f x=some s):
  ∃ w',(Instr.range 174 (.map (some b))).run Tryz.prog w=.ok (.pointer (some ⟨w.heap.size,0,none⟩)) w'/\Below w.heap.size w w'/\RangeK b w.heap.size x s w.heap[b]? true (fun y=>y=b\/y=w.heap.size) w':=by
 obtain⟨D,hD,hz,hk⟩:=h
 obtain⟨w',h1,h2,h3,h4⟩:=hD.range A1i B2N
 have hb:=hD.lt
 obtain⟨k1,k2⟩:=hk x hx
 rw [hf] at k1
 have k2:=k2 s hf
 have hkl:WideAt.IsKeyLit (.string x.data.toList):=trivial
 refine⟨w',h1,⟨h3.os,h3.tape,h3.output,h3.size,fun y hy=>h3.block y hy (fun e=>by cases e)⟩,.inl rfl,.inr rfl,by omega,h3.block b hb (fun e=>by cases e),D,_,_,hz▸h2,fun l hl=>?_,k2,fun _=>k1,fun e=>by cases e⟩
 exact B6X (hD.tidy A1i) hz hl k1
theorem RangeK.next {b r:Nat} {x:ByteArray} {s:Scroll} {o:Option Obj} {more:Bool} {S:Nat->Prop} {w:World} (h:RangeK b r x s o more S w) (ty:TypeId):
  (more=false->(Instr.next (.pointer (some ⟨r,0,none⟩)) false ty).run Tryz.prog w=.ok (.tuple #[.bool false]) w)/\
  (more=true->∃ w',(Instr.next (.pointer (some ⟨r,0,none⟩)) false ty).run Tryz.prog w=.ok (.tuple #[.bool true,.string x,.agg (scC s).toArray]) w'/\w.grownBy w' (some r)/\w'.heap.size=w.heap.size/\RangeK b r x s o false S w'/\
   (Instr.entry (.pointer (some ⟨r,0,none⟩))).run Tryz.prog w'=.ok (.tuple #[.string x,.agg (scC s).toArray]) w'):=by
 obtain⟨h1,h2,h3,h4,D,left,cnt,h5,h6,h7,h8,h9⟩:=h
 have hkl:WideAt.IsKeyLit (.string x.data.toList):=trivial
 rcases h5.next A1i ty with ⟨k1,k2,k3⟩ | ⟨key,v,kl,y,w',cnt',k1,k2,k3,k4,k5,k6,k7,k8,k9,k10⟩
 ·refine⟨fun _=>k3,fun e=>?_⟩
  have:=h8 e
  rw [k2] at this
  cases this
 ·refine⟨fun e=>?_,fun e=>?_⟩
  ·have:=h9 e kl
   rw [k2] at this
   cases this
  have ekl:=h6 kl k2
  subst ekl
  obtain⟨t,rfl,e2,_⟩:=WideMaps.string_of_keyOf Tryz.underlying9 k1
  have et:t=x:=by
   injection e2 with e2
   exact C5.1 (beq_iff_eq.2 e2.symm)
  subst et
  obtain⟨yd,yp⟩:=y
  obtain⟨s',rfl,hd⟩:=A7v k3
  have e3:=(k4 (scD sc0)).symm.trans h7
  have e4:s'=s:=A7u (hd.symm.trans e3)
  subst e4
  refine⟨w',k5,k8,k9,⟨h1,h2,h3,(k8.block b h5.owns.lt (fun e=>h3 (Option.some.inj e))).trans h4,D,_,_,k6,fun l hl=>?_,h7,(fun e=>by cases e),fun _ l=>?_⟩,k10⟩
  ·simp only [Bool.and_eq_true] at hl
   exact h6 l hl.1
  ·cases hl:left l with
   | false=>rfl
   | true=>
    have:=h6 l hl
    subst this
    rw [WideAt.sameKey_self hkl]
    rfl
def F6 (s:Scroll) (n:Int):Int:=if 0<n then s.pressed+n.tmod ((s.s.size:Int)-s.pressed+1) else s.pressed
def F7 (C:Chest) (x:ByteArray) (s:Scroll) (n:Int):Chest:=
 ⟨C.room+((s.s.size:Int)-F6 s n),if 0<F6 s n\/s.kept=true then A2b (fun _=>none) x ⟨s.s.extract 0 (F6 s n).toNat,F6 s n,true⟩ else fun _=>none,if 0<F6 s n\/s.kept=true then 1 else 0⟩
theorem A82 {s:Scroll} (hp:0<=s.pressed/\s.pressed<=s.s.size) (n:Int):s.pressed<=F6 s n/\F6 s n<=s.s.size:=by
 unfold F6
 split
 ·have h1:=Int.tmod_lt_of_pos n (show (0:Int)<(s.s.size:Int)-s.pressed+1 by omega)
  have h2:=Int.tmod_nonneg ((s.s.size:Int)-s.pressed+1) (show 0<=n by omega)
  omega
 ·omega
def B75 (gc b r b2:Nat) (C:Chest) (x:ByteArray) (s:Scroll) (n:Int) (o:Option Obj) (w2:World) (G:Nat->Prop) (g5:Nat) (more:Bool) (w':World):Prop:=
 ∃ S,CtxF no (bare w2) S w' [(g5,176,chC (if more then C.room else (F7 C x s n).room) b2)] [] (Sep 0 (Sep 0 (Keep w2 G) (RangeK b r x s o more)) (MapK b2 (if more then 0 else (F7 C x s n).k) (if more then fun _=>none else (F7 C x s n).f)))
theorem Y5 (gc b:Nat) (C:Chest) (x:ByteArray) (s:Scroll) (hx:x.size<=9223372036854775807) (hf:C.f x=some s) (hk1:C.k=1) (hp:0<=s.pressed/\s.pressed<=s.s.size) (hs:s.s.size<=1000000000000) (hr : -1000000000000<=C.room/\C.room<=1000000000000)
  (n:Int) (S:Nat->Prop) (w:World) (hK:ChestK gc b C S w):
  Calls Tryz.prog 93 #[.pointer (some ⟨gc,0,none⟩),.int .i64 n] w (fun en w'=>∃ gc' b',en=.returned (.pointer (some ⟨gc',0,none⟩))/\Below w.heap.size w w'/\ChestK gc' b' (F7 C x s n) (ext no w w') w'):=by
 obtain⟨_,_,hne,hB,hM⟩:=hK
 refine vE Tryz.func93 ?_
 refine⟨.bool false,fun w=>A7w gc _ _ w,?_⟩
 refine⟨_,(hB.cell 0).trans rfl,?_⟩
 refine⟨_,_,run_makeMap _ _,?_⟩
 have hb1:Below w.heap.size w (w.alloc (.map #[] 0)):=(Below.refl _ _).alloc (Nat.le_refl _) _
 have hs1:(w.alloc (.map #[] 0)).heap.size=w.heap.size+1:=Array.size_push ..
 have hM2:=MapC.made w
 generalize w.alloc (.map #[] 0)=w1 at hb1 hs1 hM2
 intro g5 w3 h5
 have hg5:g5=w.heap.size+1:=h5.1.trans hs1
 have hb3:Below w.heap.size w w3:=hb1.trans (h5.below.mono (by omega))
 have hs3:=h5.blk.lt
 have hblt:=hM.lt
 have hgclt:=hB.lt
 refine⟨_,(((hB.of_eq (hb3.block _ hgclt)).cell 1)).trans rfl,?_⟩
 rw [hk1] at hM
 obtain⟨w2,hr1,hr2,hr3⟩:=B4T (hM.eq (hb3.block _ hblt)) hx hf
 refine⟨_,_,hr1,?_⟩
 have hrn:w.heap.size+2<=w3.heap.size:=by omega
 have hb2s:=hr2.size
 have hrlt:w3.heap.size<w2.heap.size:=hr3.2.2.2.2.elim fun D h=>by
  obtain⟨left,cnt,h,_⟩:=h
  exact h.lt
 have hc:B75 gc b w3.heap.size w.heap.size C x s n w3.heap[b]? w2 (fun y=>y=b\/y=w3.heap.size\/y=w.heap.size\/y=g5) g5 true w2:=by
  refine⟨fun y=>y<w2.heap.size/\y≠g5,CtxF.enter (fun y hy=>hy.1) ⟨Nat.zero_le _,fun h=>h.2 rfl,h5.blk.of_eq (hr2.block _ hs3),(fun y hy=>by cases hy),trivial⟩ trivial
   ⟨fun y=>(y<w2.heap.size/\y≠g5)/\y≠w.heap.size,fun y=>y=w.heap.size,fun y hy=>⟨hy.1,hy.2⟩,fun y hy=>⟨⟨by omega,by omega⟩,Nat.zero_le _⟩,
    ⟨fun y=>y<w2.heap.size/\¬ (y=b\/y=w3.heap.size\/y=w.heap.size\/y=g5),fun y=>y=b\/y=w3.heap.size,fun y hy=>⟨⟨⟨hy.1,fun h=>hy.2 (by omega)⟩,fun h=>hy.2 (by omega)⟩,fun h=>hy.2 (by omega)⟩,fun y hy=>⟨⟨⟨by omega,by omega⟩,by omega⟩,Nat.zero_le _⟩,fun y hy hg=>⟨⟨hy,hg⟩,rfl⟩,hr3⟩,rfl,(hM2.eq (h5.below.block _ (by omega))).eq (hr2.block _ (by omega))⟩
   (Sep.stab (Sep.stab (Keep.stab _ _) (RangeK.stab _ _ _ _ _ _)) (MapK.stab _ _ _))⟩
 refine⟨Bool,fun _=>[(0,.pointer (some ⟨gc,0,none⟩)),(1,.int .i64 n),(5,.pointer (some ⟨g5,0,none⟩)),(23,.pointer (some ⟨w3.heap.size,0,none⟩))],
  B75 gc b w3.heap.size w.heap.size C x s n w3.heap[b]? w2 (fun y=>y=b\/y=w3.heap.size\/y=w.heap.size\/y=g5) g5,fun m _=>if m then 1 else 0,true,⟨rfl,rfl,rfl,rfl,trivial⟩,hc,?_⟩
 clear hc
 generalize w3.heap.size=r at*
 rintro more w4 u ⟨S4,hc⟩
 cases more with
 | false=>
  obtain⟨S1,Sa,_,_,⟨S2,Sb,_,_,hkeep,hrk⟩,hmk⟩:=hc.row
  refine⟨_,_,(hrk.next _).1 rfl,?_⟩
  have hl:=hc.leave hkeep
  have hB5:=hc.blk 0 rfl
  have hB5l:=hB5.lt
  refine⟨g5,w.heap.size,rfl,⟨hl.os.trans (hr2.os.trans hb3.os),hl.tape.trans (hr2.tape.trans hb3.tape),hl.output.trans (hr2.output.trans hb3.output),by omega,fun k hk=>?_⟩,.inr ⟨by omega,hB5l⟩,.inr ⟨Nat.le_refl _,hmk.2.lt⟩,by omega,hB5,hmk.2⟩
  by_cases hkb:k=b
  ·rw [hkb]
   exact hrk.2.2.2.1.trans (hb3.block b hblt)
  ·exact (hl.block k (by omega) (by omega)).trans ((hr2.block k (by omega)).trans (hb3.block k hk))
 | true=>
  have hc:CtxF no (bare w2) S4 w4 [(g5,176,chC C.room w.heap.size)] [] (Sep 0 (Sep 0 (Keep w2 (fun y=>y=b\/y=r\/y=w.heap.size\/y=g5)) (RangeK b r x s w3.heap[b]? true)) (MapK w.heap.size 0 (fun _=>none))):=hc
  have hc:=hc.now (X:=Sep 0 (Sep 0 (Keep w2 (fun y=>y=b\/y=r\/y=w.heap.size\/y=g5)) (MapK w.heap.size 0 (fun _=>none))) (RangeK b r x s w3.heap[b]? true)) Sep.swap (Sep.stab (Sep.stab (Keep.stab _ _) (MapK.stab _ _ _)) (RangeK.stab _ _ _ _ _ _))
  obtain⟨S1,Sa,h1,h2,h3,hrk⟩:=hc.row
  obtain⟨w5,hn1,hn2,hn3,hn4,hn5⟩:=(hrk.next 0).2 rfl
  refine⟨_,_,hn1,?_⟩
  refine⟨_,_,hn5,?_⟩
  have hc:=hc.turnO (Sep.stab (Keep.stab _ _) (MapK.stab _ _ _)) h1 h2 h3 (Sn:=Sa) ⟨hn2.os,hn2.tape,hn2.output,fun y hy hg=>hn2.block y hy (fun e=>hg (by rw [Option.some.inj e];exact hrk.2.1))⟩ (fun y hy=>⟨.inl hy,by rw [hn3];exact hc.ctx.lt y (h2 y hy).1⟩) hn4 (RangeK.stab _ _ _ _ _ _)
  have hc:=hc.now (X:=Sep 0 (Sep 0 (Keep w2 (fun y=>y=b\/y=r\/y=w.heap.size\/y=g5)) (RangeK b r x s w3.heap[b]? false)) (MapK w.heap.size 0 (fun _=>none))) Sep.swap (Sep.stab (Sep.stab (Keep.stab _ _) (RangeK.stab _ _ _ _ _ _)) (MapK.stab _ _ _))
  have hle:=A82 hp n
  have hw1:IntKind.i64.wrap ((s.s.size:Int)-s.pressed)=(s.s.size:Int)-s.pressed:=IntWalk.i64_in _ ⟨by omega,by omega⟩
  have hw2:IntKind.i64.wrap ((s.s.size:Int)-s.pressed+1)=(s.s.size:Int)-s.pressed+1:=IntWalk.i64_in _ ⟨by omega,by omega⟩
  have hw3:IntKind.i64.wrap (F6 s n)=F6 s n:=IntWalk.i64_in _ ⟨by omega,by omega⟩
  have hw4:IntKind.i64.wrap ((s.s.size:Int)-F6 s n)=(s.s.size:Int)-F6 s n:=IntWalk.i64_in _ ⟨by omega,by omega⟩
  have hw5:IntKind.i64.wrap (C.room+((s.s.size:Int)-F6 s n))=C.room+((s.s.size:Int)-F6 s n):=IntWalk.i64_in _ ⟨by omega,by omega⟩
  refine hc.n fun g7 wg7 hg7 hc=>?_
  refine hc.s 0 rfl fun wS hS hc=>?_
  refine hc.c 0 rfl rfl ?_
  refine hc.c 0 rfl rfl ?_
  refine hc.c 0 rfl rfl ?_
  by_cases hn:0<n
  ·refine dt hn ?_
   refine J7 (by rw [hw1,hw2];omega) ?_
   have hL:IntKind.i64.wrap (s.pressed+n.tmod (IntKind.i64.wrap (IntKind.i64.wrap ((s.s.size:Int)-s.pressed)+1)))=F6 s n:=by
    have e:F6 s n=s.pressed+n.tmod ((s.s.size:Int)-s.pressed+1):=if_pos hn
    rw [hw1,hw2,<-e,hw3]
   refine Drawn.join (α:=Unit) (fun _=>[(0,.pointer (some ⟨gc,0,none⟩)),(1,.int .i64 n),(5,.pointer (some ⟨g5,0,none⟩)),(6,.string x),(7,.pointer (some ⟨g7,0,none⟩)),(9,.int .i64 (F6 s n)),(23,.pointer (some ⟨r,0,none⟩))])
    (fun _ wS=>∃ S,CtxF no (bare w2) S wS [(g7,190,scC s),(g5,176,chC (C.room+((s.s.size:Int)-F6 s n)) w.heap.size)] [] (Sep 0 (Sep 0 (Keep w2 (fun y=>y=b\/y=r\/y=w.heap.size\/y=g5)) (RangeK b r x s w3.heap[b]? false)) (MapK w.heap.size 0 (fun _=>none)))) ?_ ?_
   ·refine vD (.Q [0,1,2,4,7] (.n 3 (.n 5 (.Q [6,8,9,10,11] (.n 12 .fin .stop)) .stop) (.n 5 (.Q [6,8] (.n 3 (.Q [9,10,11] (.n 12 .fin .stop)) .stop)) .stop))) (fun _=>True) trivial ?_
    have hc:=hc.drew
    refine⟨?_,?_⟩
    ·skip
     refine⟨_,hc.cell 1 rfl _ rfl,trivial,?_⟩
     refine⟨⟨_,hc.cell 0 rfl _ rfl,trivial,?_⟩,trivial⟩
     refine⟨hc.s' 1 rfl fun wS hS hc=>?_,trivial⟩
     rw [hL,hw4,hw5] at hc
     exact⟨(),⟨rfl,rfl,rfl,rfl,rfl,congrArg _ hL,rfl,trivial⟩,_,hc⟩
    refine⟨⟨_,hc.cell 0 rfl _ rfl,trivial,?_⟩,trivial⟩
    refine⟨⟨_,hc.cell 1 rfl _ rfl,trivial,?_⟩,trivial⟩
    refine⟨hc.s' 1 rfl fun wS hS hc=>?_,trivial⟩
    rw [hL,hw4,hw5] at hc
    exact⟨(),⟨rfl,rfl,rfl,rfl,rfl,congrArg _ hL,rfl,trivial⟩,_,hc⟩
   clear hc
   rintro⟨⟩ u wS ⟨S,hc⟩
   by_cases hz:0<F6 s n
   ·have e1:(F7 C x s n).f=A2b (fun _=>none) x ⟨s.s.extract 0 (F6 s n).toNat,F6 s n,true⟩:=if_pos (.inl hz)
    have e2:(F7 C x s n).k=1:=if_pos (.inl hz)
    refine dt hz ?_
    have hr:=hc
    refine vD (.Q [0,1,2,3,4,5,6,7,8,9,10] (.z 11)) (Old _) (Old.start _) ?_
    have hk:=hc.old0
    have hc:=hc.drew
    refine⟨_,fun x hx=>Keeps.cell hx (hr.blk 1 rfl) (hr.blk 1 rfl).lt rfl,?_⟩
    refine⟨_,fun x hx=>Keeps.cell hx (hr.blk 0 rfl) (hr.blk 0 rfl).lt rfl,?_⟩
    refine⟨⟨by omega,by omega,by omega⟩,?_⟩
    obtain⟨wm,hm1,hm2,_,hm3⟩:=hc.mapOf.store hx (by decide) ⟨s.s.extract 0 (F6 s n).toNat,F6 s n,true⟩
    refine⟨wm,hm1,?_⟩
    obtain⟨S',hc⟩:=hc.mapc (Sep.stab (Keep.stab _ _) (RangeK.stab _ _ _ _ _ _)) hm2 hm3
    refine⟨false,⟨rfl,rfl,rfl,rfl,trivial⟩,⟨S',?_⟩,by show (0:Nat)<1;decide⟩
    show CtxF no (bare w2) S' _ [(g5,176,chC (F7 C x s n).room w.heap.size)] [] (Sep 0 (Sep 0 _ _) (MapK w.heap.size (F7 C x s n).k (F7 C x s n).f))
    rw [e1,e2]
    exact hc.drop
   by_cases hkp:s.kept=true
   ·have e1:(F7 C x s n).f=A2b (fun _=>none) x ⟨s.s.extract 0 (F6 s n).toNat,F6 s n,true⟩:=if_pos (.inr hkp)
    have e2:(F7 C x s n).k=1:=if_pos (.inr hkp)
    refine df hz ?_
    refine hc.c 0 rfl rfl ?_
    refine B6 hkp ?_
    have hr:=hc
    refine vD (.Q [0,1,2,3,4,5,6,7,8,9,10] (.z 11)) (Old _) (Old.start _) ?_
    have hk:=hc.old0
    have hc:=hc.drew
    refine⟨_,fun x hx=>Keeps.cell hx (hr.blk 1 rfl) (hr.blk 1 rfl).lt rfl,?_⟩
    refine⟨_,fun x hx=>Keeps.cell hx (hr.blk 0 rfl) (hr.blk 0 rfl).lt rfl,?_⟩
    refine⟨⟨by omega,by omega,by omega⟩,?_⟩
    obtain⟨wm,hm1,hm2,_,hm3⟩:=hc.mapOf.store hx (by decide) ⟨s.s.extract 0 (F6 s n).toNat,F6 s n,true⟩
    refine⟨wm,hm1,?_⟩
    obtain⟨S',hc⟩:=hc.mapc (Sep.stab (Keep.stab _ _) (RangeK.stab _ _ _ _ _ _)) hm2 hm3
    refine⟨false,⟨rfl,rfl,rfl,rfl,trivial⟩,⟨S',?_⟩,by show (0:Nat)<1;decide⟩
    show CtxF no (bare w2) S' _ [(g5,176,chC (F7 C x s n).room w.heap.size)] [] (Sep 0 (Sep 0 _ _) (MapK w.heap.size (F7 C x s n).k (F7 C x s n).f))
    rw [e1,e2]
    exact hc.drop
   have e1:(F7 C x s n).f=fun _=>none:=if_neg (fun h=>h.elim hz hkp)
   have e2:(F7 C x s n).k=0:=if_neg (fun h=>h.elim hz hkp)
   refine df hz ?_
   refine hc.c 0 rfl rfl ?_
   refine B4 (by simpa using hkp) ?_
   refine⟨false,⟨rfl,rfl,rfl,rfl,trivial⟩,⟨S,?_⟩,by show (0:Nat)<1;decide⟩
   show CtxF no (bare w2) S _ [(g5,176,chC (F7 C x s n).room w.heap.size)] [] (Sep 0 (Sep 0 _ _) (MapK w.heap.size (F7 C x s n).k (F7 C x s n).f))
   rw [e1,e2]
   exact hc.drop
  ·refine df hn ?_
   have hL:s.pressed=F6 s n:=(if_neg hn).symm
   refine Drawn.join (α:=Unit) (fun _=>[(0,.pointer (some ⟨gc,0,none⟩)),(1,.int .i64 n),(5,.pointer (some ⟨g5,0,none⟩)),(6,.string x),(7,.pointer (some ⟨g7,0,none⟩)),(9,.int .i64 (F6 s n)),(23,.pointer (some ⟨r,0,none⟩))])
    (fun _ wS=>∃ S,CtxF no (bare w2) S wS [(g7,190,scC s),(g5,176,chC (C.room+((s.s.size:Int)-F6 s n)) w.heap.size)] [] (Sep 0 (Sep 0 (Keep w2 (fun y=>y=b\/y=r\/y=w.heap.size\/y=g5)) (RangeK b r x s w3.heap[b]? false)) (MapK w.heap.size 0 (fun _=>none)))) ?_ ?_
   ·refine vD (.Q [0,1,2,4,7] (.n 3 (.n 5 (.Q [6,8,9,10,11] (.n 12 .fin .stop)) .stop) (.n 5 (.Q [6,8] (.n 3 (.Q [9,10,11] (.n 12 .fin .stop)) .stop)) .stop))) (fun _=>True) trivial ?_
    have hc:=hc.drew
    refine⟨?_,?_⟩
    ·skip
     refine⟨_,hc.cell 1 rfl _ rfl,trivial,?_⟩
     refine⟨⟨_,hc.cell 0 rfl _ rfl,trivial,?_⟩,trivial⟩
     refine⟨hc.s' 1 rfl fun wS hS hc=>?_,trivial⟩
     rw [hL,hw4,hw5] at hc
     exact⟨(),⟨rfl,rfl,rfl,rfl,rfl,congrArg _ hL,rfl,trivial⟩,_,hc⟩
    refine⟨⟨_,hc.cell 0 rfl _ rfl,trivial,?_⟩,trivial⟩
    refine⟨⟨_,hc.cell 1 rfl _ rfl,trivial,?_⟩,trivial⟩
    refine⟨hc.s' 1 rfl fun wS hS hc=>?_,trivial⟩
    rw [hL,hw4,hw5] at hc
    exact⟨(),⟨rfl,rfl,rfl,rfl,rfl,congrArg _ hL,rfl,trivial⟩,_,hc⟩
   clear hc
   rintro⟨⟩ u wS ⟨S,hc⟩
   by_cases hz:0<F6 s n
   ·have e1:(F7 C x s n).f=A2b (fun _=>none) x ⟨s.s.extract 0 (F6 s n).toNat,F6 s n,true⟩:=if_pos (.inl hz)
    have e2:(F7 C x s n).k=1:=if_pos (.inl hz)
    refine dt hz ?_
    have hr:=hc
    refine vD (.Q [0,1,2,3,4,5,6,7,8,9,10] (.z 11)) (Old _) (Old.start _) ?_
    have hk:=hc.old0
    have hc:=hc.drew
    refine⟨_,fun x hx=>Keeps.cell hx (hr.blk 1 rfl) (hr.blk 1 rfl).lt rfl,?_⟩
    refine⟨_,fun x hx=>Keeps.cell hx (hr.blk 0 rfl) (hr.blk 0 rfl).lt rfl,?_⟩
    refine⟨⟨by omega,by omega,by omega⟩,?_⟩
    obtain⟨wm,hm1,hm2,_,hm3⟩:=hc.mapOf.store hx (by decide) ⟨s.s.extract 0 (F6 s n).toNat,F6 s n,true⟩
    refine⟨wm,hm1,?_⟩
    obtain⟨S',hc⟩:=hc.mapc (Sep.stab (Keep.stab _ _) (RangeK.stab _ _ _ _ _ _)) hm2 hm3
    refine⟨false,⟨rfl,rfl,rfl,rfl,trivial⟩,⟨S',?_⟩,by show (0:Nat)<1;decide⟩
    show CtxF no (bare w2) S' _ [(g5,176,chC (F7 C x s n).room w.heap.size)] [] (Sep 0 (Sep 0 _ _) (MapK w.heap.size (F7 C x s n).k (F7 C x s n).f))
    rw [e1,e2]
    exact hc.drop
   by_cases hkp:s.kept=true
   ·have e1:(F7 C x s n).f=A2b (fun _=>none) x ⟨s.s.extract 0 (F6 s n).toNat,F6 s n,true⟩:=if_pos (.inr hkp)
    have e2:(F7 C x s n).k=1:=if_pos (.inr hkp)
    refine df hz ?_
    refine hc.c 0 rfl rfl ?_
    refine B6 hkp ?_
    have hr:=hc
    refine vD (.Q [0,1,2,3,4,5,6,7,8,9,10] (.z 11)) (Old _) (Old.start _) ?_
    have hk:=hc.old0
    have hc:=hc.drew
    refine⟨_,fun x hx=>Keeps.cell hx (hr.blk 1 rfl) (hr.blk 1 rfl).lt rfl,?_⟩
    refine⟨_,fun x hx=>Keeps.cell hx (hr.blk 0 rfl) (hr.blk 0 rfl).lt rfl,?_⟩
    refine⟨⟨by omega,by omega,by omega⟩,?_⟩
    obtain⟨wm,hm1,hm2,_,hm3⟩:=hc.mapOf.store hx (by decide) ⟨s.s.extract 0 (F6 s n).toNat,F6 s n,true⟩
    refine⟨wm,hm1,?_⟩
    obtain⟨S',hc⟩:=hc.mapc (Sep.stab (Keep.stab _ _) (RangeK.stab _ _ _ _ _ _)) hm2 hm3
    refine⟨false,⟨rfl,rfl,rfl,rfl,trivial⟩,⟨S',?_⟩,by show (0:Nat)<1;decide⟩
    show CtxF no (bare w2) S' _ [(g5,176,chC (F7 C x s n).room w.heap.size)] [] (Sep 0 (Sep 0 _ _) (MapK w.heap.size (F7 C x s n).k (F7 C x s n).f))
    rw [e1,e2]
    exact hc.drop
   have e1:(F7 C x s n).f=fun _=>none:=if_neg (fun h=>h.elim hz hkp)
   have e2:(F7 C x s n).k=0:=if_neg (fun h=>h.elim hz hkp)
   refine df hz ?_
   refine hc.c 0 rfl rfl ?_
   refine B4 (by simpa using hkp) ?_
   refine⟨false,⟨rfl,rfl,rfl,rfl,trivial⟩,⟨S,?_⟩,by show (0:Nat)<1;decide⟩
   show CtxF no (bare w2) S _ [(g5,176,chC (F7 C x s n).room w.heap.size)] [] (Sep 0 (Sep 0 _ _) (MapK w.heap.size (F7 C x s n).k (F7 C x s n).f))
   rw [e1,e2]
   exact hc.drop
def z49:List UInt8:=List.replicate 49 0
theorem B76 (w:World):∃ w',(Instr.makeSlice 45 (.int .i64 49) (.int .i64 49)).run Tryz.prog w=.ok (.slice (some ⟨w.heap.size,0,none⟩) 49 49) w'/\Below w.heap.size w w'/\Row (fun b=>b=w.heap.size) w' (some ⟨w.heap.size,0,none⟩) 49 49 (bv z49):=by
 obtain⟨ti,hi,hz,hsz,hby⟩:=info_parts A47
 have h:=run_makeSlice (w:=w) 45 5 ti _ Tryz.underlying45 hi hz .i64 .i64 49 49 (by decide) (by decide) (by rw [hsz];decide) (by rw [hby];decide) (by decide)
 refine⟨_,h,(Below.refl _ _).alloc (Nat.le_refl _) _,by decide,by decide,fun _=>⟨_,rfl,rfl,fun j u hj=>?_⟩⟩
 have ea:Go.madeCells (Value.int .u8 0).cells ((49:Int).toNat*ti.size)=(bv z49).toArray:=by
  rw [hsz]
  exact Array.toList_inj.1 ((toList_madeCells_one (.int .u8 0) 49).trans (by kernel_rfl))
 rw [ea]
 have hB:Blk (w.alloc (.cells (bv z49).toArray 5)) w.heap.size 5 (bv z49):=(MapKept.heap_alloc w _).1
 rw [Addr.add_lit,Nat.zero_add,hB.cell]
 exact hj
def bA:ByteArray:=⟨#[65]⟩
def bB:ByteArray:=⟨#[66]⟩
def c3f (x:ByteArray) (s:Scroll):ByteArray->Option Scroll:=A2b (fun _=>none) x s
def c30:Chest:=⟨50,fun _=>none,0⟩
def s31:Scroll:=⟨⟨#[]⟩++⟨#[120,121,122]⟩,0,false⟩
def c31:Chest:=⟨47,c3f bA s31,1⟩
def c32:Chest:=⟨47,A2b c31.f bA ⟨s31.s,s31.s.size,true⟩,1⟩
def s33:Scroll:=⟨s31.s.extract 0 2,2,true⟩
def c33:Chest:=⟨48,A2b c32.f bA s33,1⟩
def c34:Chest:=⟨48,A2b (B5P c33.f bA) bB s33,1⟩
theorem B9S:B74 50=c30:=by kernel_rfl
theorem B9T:N0 c30 bA ⟨#[120,121,122]⟩=(c31,0):=by kernel_rfl
theorem B9U:N0 c31 ⟨#[97]⟩ ⟨#[]⟩=(c31,1):=by kernel_rfl
theorem f31:c31.f bA=some s31:=by kernel_rfl
theorem pr3:A0z c31 bA=(c32,0):=by kernel_rfl
theorem cu3:A7y c32 bA 2=(c33,0):=by kernel_rfl
theorem ca3:A0X c33 bA bB=(c34,0):=by kernel_rfl
theorem f34:c34.f bB=some s33:=by kernel_rfl
theorem t1:((F7 c31 bA s31 2).f bA).getD sc0=⟨⟨#[120,121]⟩,2,true⟩/\((F7 c31 bA s31 2).f bA).isSome=true:=⟨by kernel_rfl,by kernel_rfl⟩
theorem t2:((F7 c31 bA s31 0).f bA).isSome=false:=by kernel_rfl
theorem t3:((F7 c34 bB s33 (-1)).f bB).getD sc0=⟨⟨#[120,121]⟩,2,true⟩/\((F7 c34 bB s33 (-1)).f bB).isSome=true:=⟨by kernel_rfl,by kernel_rfl⟩
theorem B9V (t:ByteArray) (h:t.size=49):N0 c34 ⟨#[67]⟩ t=(c34,5):=by
 have e:A3e ⟨#[67]⟩=true:=by kernel_rfl
 unfold N0
 rw [e,if_pos rfl,h]
 rfl
theorem A9t (w:World) (hw0:Env w):Calls Tryz.prog 215 #[] w (C7 (.bool true) w):=by
 refine vE Tryz.func215 ?_
 have hc:=CtxF.start w no (fun _ h=>h.elim) (R:=fun _ _=>True) trivial Stab.true
 refine⟨(A7z 50 _).mono fun en wq hq=>?_⟩
 rw [B9S] at hq
 obtain⟨gc,b,e1,hq,hO⟩:=hq
 have hc:=hc.sepNew hq hO (ChestK.stab _ _ _)
 refine⟨_,e1,?_⟩
 have hw:=fun Sa w hK=>A0W gc b c30 bA ⟨#[120,121,122]⟩ (by decide) ⟨by decide,by decide⟩ (by decide) (by decide) (by decide) Sa w hK
 rw [B9T] at hw
 obtain⟨S1,Sa,h1,h2,h3,hO⟩:=hc.row
 refine⟨(hw Sa _ hO).mono fun en wq hq=>?_⟩
 obtain⟨e1,hT,Sn,hSn,hO⟩:=hq
 have hc:=hc.turnO (Stab.true) h1 h2 h3 hT hSn hO (ChestK.stab _ _ _)
 refine⟨_,e1,?_⟩
 have hw:=fun Sa w hK=>A0W gc b c31 ⟨#[97]⟩ ⟨#[]⟩ (by decide) ⟨by decide,by decide⟩ (by decide) (by decide) (by decide) Sa w hK
 rw [B9U] at hw
 obtain⟨S1,Sa,h1,h2,h3,hO⟩:=hc.row
 refine⟨(hw Sa _ hO).mono fun en wq hq=>?_⟩
 obtain⟨e1,hT,Sn,hSn,hO⟩:=hq
 have hc:=hc.turnO (Stab.true) h1 h2 h3 hT hSn hO (ChestK.stab _ _ _)
 refine⟨_,e1,?_⟩
 refine⟨(Y5 gc b c31 bA s31 (by decide) f31 rfl ⟨by decide,by decide⟩ (by decide) ⟨by decide,by decide⟩ 2 _ _ (hc.row.right (ChestK.stab _ _ _))).mono fun en wq hq=>?_⟩
 obtain⟨g2,b2,e1,hq,hO2⟩:=hq
 have hc:=(hc.quiet hq).1
 refine⟨_,e1,?_⟩
 have hrd:=A0l g2 b2 (F7 c31 bA s31 2) bA (by decide) _ _ hO2
 rw [t1.1,t1.2] at hrd
 refine hc.q (hrd) fun wQ hQ hc=>?_
 refine⟨(Y5 gc b c31 bA s31 (by decide) f31 rfl ⟨by decide,by decide⟩ (by decide) ⟨by decide,by decide⟩ 0 _ _ (hc.row.right (ChestK.stab _ _ _))).mono fun en wq hq=>?_⟩
 obtain⟨g2,b2,e1,hq,hO2⟩:=hq
 have hc:=(hc.quiet hq).1
 refine⟨_,e1,?_⟩
 have hrd:=A0l g2 b2 (F7 c31 bA s31 0) bA (by decide) _ _ hO2
 rw [t2] at hrd
 refine hc.q (hrd) fun wQ hQ hc=>?_
 have hw:=fun Sa w hK=>A3i gc b c31 bA (by decide) (by decide) Sa w hK
 rw [pr3] at hw
 obtain⟨S1,Sa,h1,h2,h3,hO⟩:=hc.row
 refine⟨(hw Sa _ hO).mono fun en wq hq=>?_⟩
 obtain⟨e1,hT,Sn,hSn,hO⟩:=hq
 have hc:=hc.turnO (Stab.true) h1 h2 h3 hT hSn hO (ChestK.stab _ _ _)
 refine⟨_,e1,?_⟩
 have hw:=fun Sa w hK=>A1k gc b c32 bA 2 (by decide) ⟨by decide,by decide⟩ (by decide) (by decide) Sa w hK
 rw [cu3] at hw
 obtain⟨S1,Sa,h1,h2,h3,hO⟩:=hc.row
 refine⟨(hw Sa _ hO).mono fun en wq hq=>?_⟩
 obtain⟨e1,hT,Sn,hSn,hO⟩:=hq
 have hc:=hc.turnO (Stab.true) h1 h2 h3 hT hSn hO (ChestK.stab _ _ _)
 refine⟨_,e1,?_⟩
 have hw:=fun Sa w hK=>A2x gc b c33 bA bB (by decide) (by decide) ⟨by decide,by decide⟩ (by decide) (by decide) Sa w hK
 rw [ca3] at hw
 obtain⟨S1,Sa,h1,h2,h3,hO⟩:=hc.row
 refine⟨(hw Sa _ hO).mono fun en wq hq=>?_⟩
 obtain⟨e1,hT,Sn,hSn,hO⟩:=hq
 have hc:=hc.turnO (Stab.true) h1 h2 h3 hT hSn hO (ChestK.stab _ _ _)
 refine⟨_,e1,?_⟩
 refine⟨(Y5 gc b c34 bB s33 (by decide) f34 rfl ⟨by decide,by decide⟩ (by decide) ⟨by decide,by decide⟩ (-1) _ _ (hc.row.right (ChestK.stab _ _ _))).mono fun en wq hq=>?_⟩
 obtain⟨g2,b2,e1,hq,hO2⟩:=hq
 have hc:=(hc.quiet hq).1
 refine⟨_,e1,?_⟩
 have hrd:=A0l g2 b2 (F7 c34 bB s33 (-1)) bB (by decide) _ _ hO2
 rw [t3.1,t3.2] at hrd
 refine hc.q (hrd) fun wQ hQ hc=>?_
 refine hc.q (A4a _ (hw0.below hc.below)) fun wQ hQ hc=>?_
 have hpr:=A7x gc b c34 bB (by decide) _ _ (hc.row.right (ChestK.stab _ _ _))
 rw [f34] at hpr
 refine hc.q (hpr) fun wQ hQ hc=>?_
 refine hc.q (B4S gc b c34 _ _ (hc.row.right (ChestK.stab _ _ _))) fun wQ hQ hc=>?_
 obtain⟨wm,hm1,hm2,hm3⟩:=B76 wQ
 refine⟨_,wm,hm1,?_⟩
 have hc:=(hc.quiet hm2).1
 refine A1H (l:=z49) Tryz.underlying45 Tryz.underlying5 Tryz.underlying9 hm3 rfl ?_
 have hw:=fun Sa w hK=>A0W gc b c34 ⟨#[67]⟩ ⟨z49.toArray⟩ (by decide) ⟨by decide,by decide⟩ (by decide) (by decide) (by decide) Sa w hK
 rw [B9V _ rfl] at hw
 obtain⟨S1,Sa,h1,h2,h3,hO⟩:=hc.row
 refine⟨(hw Sa _ hO).mono fun en wq hq=>?_⟩
 obtain⟨e1,hT,Sn,hSn,hO⟩:=hq
 have hc:=hc.turnO (Stab.true) h1 h2 h3 hT hSn hO (ChestK.stab _ _ _)
 refine⟨_,e1,?_⟩
 exact⟨rfl,hc.below⟩
theorem A9u (w:World) (hw0:Env w):Calls Tryz.prog 182 #[] w (C7 (.bool true) w):=by
 refine vE Tryz.func182 ?_
 refine C2 (A9t w hw0) ?_
 intro w1 h1
 exact⟨rfl,h1⟩
def U0 (s:List UInt8):List UInt8:=V8 (zOn (0,1) s)
def H9 (s:ByteArray):List UInt8:=if (400000:Int)<(s.size:Int) then [] else U0 s.data.toList++A2W (vStr s)
theorem B6Y (v:V):(A2W v).length<=(I8 v).length:=by
 unfold A2W
 split
 ·exact Nat.le_refl _
 ·exact Nat.zero_le _
theorem A83 (n:Int):(A7S n).length=4:=by
 simp [A7S]
theorem D5 (s:List UInt8):(U0 s).length=8:=by
 unfold U0 V8
 rw [List.length_append,A83,A83]
theorem A1l (s:ByteArray) (hs:s.size<=9223372036854775807) (w:World) (hw:Env w):Calls Tryz.prog 172 #[.string s] w (C7 (.string ⟨(H9 s).toArray⟩) w):=by
 refine vE Tryz.func172 ?_
 unfold H9
 by_cases h:(400000:Int)<(s.size:Int)
 ·rw [if_pos h]
  refine dt h ?_
  exact⟨rfl,Below.refl _ _⟩
 rw [if_neg h]
 refine df h ?_
 refine A1G no Tryz.underlying9 Tryz.underlying45 Tryz.underlying5 hs ?_
 intro g cap w1 h1 hR
 refine C2 (A0G (L0 s).symm hs _ hR) ?_
 intro w2 h2
 refine C2 (A1R (A1Q _ _ ⟨by decide,by decide⟩) _) ?_
 intro w3 h3
 have h12:=h1.trans (h2.mono h1.size)
 have h13:=h12.trans (h3.mono h12.size)
 refine C2 (X8 (vStr s) ⟨⟨by decide,by decide⟩,trivial⟩ (Nat.le_trans (P3 s (by omega)) (by omega)) _ _ _ _ _ _ no _ (RepC.leaf _ _ _ _ _) (hw.below h13).tab) ?_
 intro w4 h4
 have h14:=h13.trans (h4.mono h13.size)
 have h5:=B6Y (vStr s)
 have h6:=P3 s (by omega)
 have h7:=D5 s.data.toList
 refine⟨?_,?_⟩
 ·show (U0 s.data.toList).toArray.size+(A2W (vStr s)).toArray.size<=_
  rw [List.size_toArray,List.size_toArray]
  omega
 ·refine⟨?_,h14⟩
  rw [<-V9]
  rfl
def A06 (l:List UInt8):Bool:=(R6 (l.take 8++List.replicate (8-l.length) 48)).2
theorem B4U (n:Nat) (h:n<=8):((⟨#[48,48,48,48,48,48,48,48]⟩:ByteArray).extract n 8).data.toList=List.replicate (8-n) 48:=by
 have:∀ n:Fin 9,((⟨#[48,48,48,48,48,48,48,48]⟩:ByteArray).extract n.val 8).data.toList=List.replicate (8-n.val) 48:=by decide +kernel
 exact this ⟨n,by omega⟩
theorem B9W (s:ByteArray) (m:Nat) (hm:m=min 8 s.size):(s.extract 0 m++(⟨#[48,48,48,48,48,48,48,48]⟩:ByteArray).extract m 8).data.toList=s.data.toList.take 8++List.replicate (8-s.data.toList.length) 48:=by
 have hl:s.data.toList.length=s.size:=L0 s
 have e0:s.extract 0 m=⟨((s.data.toList.drop 0).take (m-0)).toArray⟩:=W2 s.data.toList 0 m
 rw [ByteArray.data_append,Array.toList_append,B4U m (by omega),e0,hl]
 show (s.data.toList.drop 0).take (m-0)++_=_
 rw [List.drop_zero,Nat.sub_zero,show 8-m=8-s.size from by omega]
 congr 1
 rcases Nat.lt_or_ge s.size 8 with h | h
 ·rw [List.take_of_length_le (by omega),List.take_of_length_le (by omega)]
 ·rw [show m=8 from by omega]
theorem A9v (s:ByteArray) (hs:s.size<=1000000000000) (w:World):Calls Tryz.prog 207 #[.string s] w (C7 (.bool (A06 s.data.toList)) w):=by
 obtain⟨m,hm,hm8⟩:∃ m:Nat,(if (8:Int)<(s.size:Int) then 8 else (s.size:Int))=(m:Int)/\m=min 8 s.size:=⟨min 8 s.size,by split<;>omega,rfl⟩
 have hsz:(s.extract ((0:Nat):Int).toNat (if (8:Int)<(s.size:Int) then 8 else (s.size:Int)).toNat).size=m:=by
  rw [hm,ByteArray.size_extract]
  omega
 have hg:=fun w=>A3I (s.extract 0 m++(⟨#[48,48,48,48,48,48,48,48]⟩:ByteArray).extract m 8) w
 rw [B9W s m hm8] at hg
 have e1:s.extract 0 m=s.extract ((0:Nat):Int).toNat (if (8:Int)<(s.size:Int) then 8 else (s.size:Int)).toNat:=by rw [hm];rfl
 rw [e1] at hg
 have e2:((s.extract ((0:Nat):Int).toNat (if (8:Int)<(s.size:Int) then 8 else (s.size:Int)).toNat).size:Int).toNat=m:=by rw [hsz];exact Int.toNat_natCast m
 rw [<-e2] at hg
 refine vE Tryz.func207 ?_
 refine⟨⟨Int.le_refl _,by rw [hm];omega,by rw [hm];omega⟩,?_⟩
 refine⟨⟨Int.natCast_nonneg _,by rw [hsz];show (m:Int)<=8;omega,Int.le_refl _⟩,?_⟩
 have h8:(⟨#[48,48,48,48,48,48,48,48]⟩:ByteArray).size=8:=rfl
 refine⟨by simp only [ByteArray.size_extract,h8];omega,?_⟩
 refine C2 (hg _) ?_
 intro w1 h1
 exact⟨rfl,h1⟩
end Go.Proofs.YtfekddndgakneaaGreatDoor
section
namespace Go.Vc
open Go Go.RowKit
open Go.Proofs.YtfekddndgakneaaGreatDoor (no RetOb Env)
def ObjK (g T:Nat) (cs:List Value) (R O:Kn):Kn:=fun S w=>S g/\Blk w g T cs/\Sep 0 R O (fun x=>S x/\x≠g) w
theorem ObjK.stab {g T:Nat} {cs:List Value} {R O:Kn} (hR:Stab R) (hO:Stab O):Stab (ObjK g T cs R O):=fun S w S' w' h f=>
 ⟨f.1 _ h.1,h.2.1.of_eq (f.2 _ h.1),Sep.stab hR hO _ _ _ _ h.2.2 ⟨fun x hx=>⟨f.1 x hx.1,hx.2⟩,fun x hx=>f.2 x hx.1⟩⟩
theorem ObjK.right {g T:Nat} {cs:List Value} {R O:Kn} (hO:Stab O) {S:Nat->Prop} {w:World} (h:ObjK g T cs R O S w):O S w:=
 hO _ _ _ _ (h.2.2.right hO) ⟨fun x hx=>hx.1,fun _ _=>rfl⟩
theorem ObjK.left {g T:Nat} {cs:List Value} {R O:Kn} (hR:Stab R) {S:Nat->Prop} {w:World} (h:ObjK g T cs R O S w):R S w:=
 hR _ _ _ _ (h.2.2.left hR) ⟨fun x hx=>hx.1,fun _ _=>rfl⟩
section
variable {w0 w w':World} {S Sa:Nat->Prop} {l:List LB} {os:List OR} {R O K X Y:Kn} {g T n0:Nat} {cs cs':List Value}
theorem ObjK.enter (h:ObjK g T cs R O Sa w) (hlt:∀ x,Sa x->x<w.heap.size) (hR:Stab R) (hO:Stab O):
  CtxF no (bare w) (fun x=>x<w.heap.size/\x≠g) w [(g,T,cs)] [] (Sep 0 (Sep 0 (Keep w Sa) R) O):=by
 obtain⟨h1,h2,Sr,So,k1,k2,k3,k4⟩:=h
 refine CtxF.enter (fun x hx=>hx.1) ⟨Nat.zero_le _,fun h=>h.2 rfl,h2,(fun x hx=>by cases hx),trivial⟩ trivial ⟨fun x=>x<w.heap.size/\¬ So x/\x≠g,So,fun x hx=>⟨⟨hx.1,hx.2.2⟩,hx.2.1⟩,fun x hx=>⟨⟨hlt x (k2 x hx).1.1,(k2 x hx).1.2⟩,Nat.zero_le _⟩,⟨fun x=>x<w.heap.size/\¬ Sa x,Sr,fun x hx=>⟨⟨hx.1,fun e=>hx.2 (k2 x e).1.1,fun e=>hx.2 (e▸h1)⟩,fun e=>hx.2 (k1 x e).1.1⟩,fun x hx=>⟨⟨hlt x (k1 x hx).1.1,(k1 x hx).2,(k1 x hx).1.2⟩,Nat.zero_le _⟩,fun x hx hg=>⟨⟨hx,hg⟩,rfl⟩,k3⟩,k4⟩ (Sep.stab (Sep.stab (Keep.stab _ _) hR) hO)
theorem ObjK.leave (hc:CtxF no (bare w) S w' [(g,T,cs')] [] (Sep 0 (Sep 0 (Keep w Sa) R) O)) (v:Value):RetOb Sa w v (ObjK g T cs' R O) (Ending.returned v) w':=by
 obtain⟨S1,So,h1,h2,⟨Sk,Sr,k1,k2,k3,k4⟩,h4⟩:=hc.row
 have hSg:¬ S g:=hc.ctx.locs.2.1
 have hr:∀ x,Sr x->S x:=fun x hx=>(h1 x (k2 x hx).1).1
 refine⟨rfl,hc.leave k3,fun x=>x=g\/Sr x\/So x,fun x hx=>?_,.inl rfl,hc.blk 0 rfl,Sr,So,fun x hx=>⟨⟨.inr (.inl hx),fun e=>hSg (e▸hr x hx)⟩,(h1 x (k2 x hx).1).2⟩,fun x hx=>⟨⟨.inr (.inr hx),fun e=>hSg (e▸(h2 x hx).1)⟩,Nat.zero_le _⟩,k4,h4⟩
 have hout:(Sk x->False)->Sa x\/w.heap.size<=x:=fun hn=>by
  rcases Nat.lt_or_ge x w.heap.size with hl | hl
  ·rcases Classical.em (Sa x) with hs | hs
   ·exact .inl hs
   ·exact (hn (k3 x hl hs).1).elim
  ·exact .inr hl
 rcases hx with rfl | hx | hx
 ·exact⟨hout fun hk=>hSg (h1 _ (k1 _ hk).1).1,(hc.blk 0 rfl).lt⟩
 ·exact⟨hout fun hk=>(k1 x hk).2 hx,hc.ctx.lt x (hr x hx)⟩
 ·exact⟨hout fun hk=>(h1 x (k1 x hk).1).2 hx,hc.ctx.lt x (h2 x hx).1⟩
theorem CtxF.again {w1:World} (hc:CtxF no (bare w) S w1 [(g,T,cs)] [] (Sep 0 (Sep 0 (Keep w Sa) R) O)):
  ∃ Sm:Nat->Prop,(∀ x,Sm x->x<w1.heap.size)/\(∀ x,x<w.heap.size->¬ Sa x->¬ Sm x/\w1.heap[x]?=w.heap[x]?)/\ObjK g T cs R O Sm w1/\∀ {w2:World} {cs':List Value} {R' O':Kn} {Sn:Nat->Prop},Turn Sm w1 w2->(∀ x,Sn x->(Sm x\/w1.heap.size<=x)/\x<w2.heap.size)->ObjK g T cs' R' O' Sn w2->Stab R'->Stab O'->
   ∃ S2,CtxF no (bare w) S2 w2 [(g,T,cs')] [] (Sep 0 (Sep 0 (Keep w Sa) R') O'):=by
 obtain⟨S1,So,h1,h2,⟨Sk,Sr,k1,k2,k3,k4⟩,h4⟩:=hc.row
 have hSg:¬ S g:=hc.ctx.locs.2.1
 have hr:∀ x,Sr x->S x:=fun x hx=>(h1 x (k2 x hx).1).1
 have hk:∀ x,Sk x->S x/\¬ Sr x/\¬ So x/\x≠g:=fun x hx=>⟨(h1 x (k1 x hx).1).1,(k1 x hx).2,(h1 x (k1 x hx).1).2,fun e=>hSg (e▸(h1 x (k1 x hx).1).1)⟩
 refine⟨fun x=>x=g\/Sr x\/So x,fun x hx=>?_,fun x hx hn=>?_,⟨.inl rfl,hc.blk 0 rfl,Sr,So,fun x hx=>⟨⟨.inr (.inl hx),fun e=>hSg (e▸hr x hx)⟩,(h1 x (k2 x hx).1).2⟩,fun x hx=>⟨⟨.inr (.inr hx),fun e=>hSg (e▸(h2 x hx).1)⟩,Nat.zero_le _⟩,k4,h4⟩,?_⟩
 ·rcases hx with rfl | hx | hx
  ·exact (hc.blk 0 rfl).lt
  ·exact hc.ctx.lt x (hr x hx)
  ·exact hc.ctx.lt x (h2 x hx).1
 ·obtain⟨i1,i2⟩:=k3 x hx hn
  obtain⟨a,b,c,d⟩:=hk x i1
  exact⟨fun e=>e.elim d (fun e=>e.elim b c),i2⟩
 ·intro w2 cs' R' O' Sn hT hSn hO sR sO
  obtain⟨j1,j2,Sr',So',i1,i2,i3,i4⟩:=hO
  have hnk:∀ x,Sk x->¬ Sn x:=fun x hx hn=>by
   obtain⟨a,b,c,d⟩:=hk x hx
   have hl:=hc.ctx.lt x a
   rcases (hSn x hn).1 with (e | e | e) | e
   ·exact d e
   ·exact b e
   ·exact c e
   ·omega
  have hkeep:∀ x,Sk x->w2.heap[x]?=w1.heap[x]?:=fun x hx=>by
   obtain⟨a,b,c,d⟩:=hk x hx
   exact hT.block x (hc.ctx.lt x a) (fun e=>e.elim d (fun e=>e.elim b c))
  have hklt:∀ x,Sk x->x<w2.heap.size:=fun x hx=>A0H (hkeep x hx) (hc.ctx.lt x (hk x hx).1)
  refine⟨fun x=>x<w2.heap.size/\x≠g,⟨⟨⟨hT.os.trans hc.below.os,hT.tape.trans hc.below.tape,hT.output.trans hc.below.output,Nat.zero_le _,fun k hk=>absurd hk (Nat.not_lt_zero _)⟩,fun _ h=>h.elim,fun b _=>.inr (Nat.zero_le _),fun x hx=>hx.1,⟨Nat.zero_le _,fun h=>h.2 rfl,j2,(fun x hx=>by cases hx),trivial⟩⟩,trivial,?_,Sep.stab (Sep.stab (Keep.stab _ _) sR) sO⟩⟩
  refine⟨fun x=>x<w2.heap.size/\¬ So' x/\x≠g,So',fun x hx=>⟨⟨hx.1,hx.2.2⟩,hx.2.1⟩,fun x hx=>⟨⟨(hSn x (i2 x hx).1.1).2,(i2 x hx).1.2⟩,Nat.zero_le _⟩,⟨Sk,Sr',fun x hx=>⟨⟨hklt x hx,fun e=>hnk x hx (i2 x e).1.1,(hk x hx).2.2.2⟩,fun e=>hnk x hx (i1 x e).1.1⟩,fun x hx=>⟨⟨(hSn x (i1 x hx).1.1).2,(i1 x hx).2,(i1 x hx).1.2⟩,Nat.zero_le _⟩,Keep.stab _ _ _ _ _ _ k3 ⟨fun _ h=>h,hkeep⟩,i3⟩,i4⟩
theorem CtxF.mid (hc:CtxF no w0 S w l os (Sep w0.heap.size (Sep n0 K R) O)) (hn:n0<=w0.heap.size) (hK:Stab K) (hR:Stab R) (hO:Stab O):
  ∃ Sr:Nat->Prop,R Sr w/\(∀ x,Sr x->S x)/\∀ {w':World} {l':List LB} {R':Kn},CtxF no w0 (ext S w w') w' l' os R'/\Fut S w (ext S w w') w'->∀ {X:Kn},Stab X->X (ext Sr w w') w'->CtxF no w0 (ext S w w') w' l' os (Sep w0.heap.size (Sep n0 K (fun S w=>R S w/\X S w)) O):=by
 obtain⟨S1,So,h1,h2,⟨Sk,Sr,k1,k2,k3,k4⟩,h4⟩:=hc.row
 have hlt:∀ x,S x->x<w.heap.size:=hc.ctx.lt
 have hrS:∀ x,Sr x->S x:=fun x hx=>(h1 x (k2 x hx).1).1
 refine⟨Sr,k4,hrS,fun {w' l' R'} hh {X} hX hx=>?_⟩
 obtain⟨hc',hf⟩:=hh
 have hnew:∀ x,w.heap.size<=x->S x->False:=fun x h1 h2=>absurd (hlt x h2) (by omega)
 refine hc'.now (fun _=>⟨ext S1 w w',So,fun x hx=>?_,fun x hx=>⟨.inl (h2 x hx).1,(h2 x hx).2⟩,⟨Sk,ext Sr w w',fun x hx=>⟨.inl (k1 x hx).1,fun h=>?_⟩,fun x hx=>⟨?_,?_⟩,?_,?_,hx⟩,?_⟩) (Sep.stab (Sep.stab hK (hR.and hX)) hO)
 ·rcases hx with hx | hx
  ·exact⟨.inl (h1 x hx).1,(h1 x hx).2⟩
  ·exact⟨.inr hx,fun h=>hnew x hx.1 (h2 x h).1⟩
 ·rcases h with h | h
  ·exact (k1 x hx).2 h
  ·exact hnew x h.1 (h1 x (k1 x hx).1).1
 ·rcases hx with hx | hx
  ·exact .inl (k2 x hx).1
  ·exact .inr hx
 ·rcases hx with hx | hx
  ·exact (k2 x hx).2
  ·exact Nat.le_trans hn (Nat.le_trans hc.ctx.below.size hx.1)
 ·exact hK _ _ _ _ k3 ⟨fun _ h=>h,fun x hx=>hf.2 x (h1 x (k1 x hx).1).1⟩
 ·exact hR _ _ _ _ k4 ⟨fun _ h=>.inl h,fun x hx=>hf.2 x (hrS x hx)⟩
 ·exact hO _ _ _ _ h4 ⟨fun _ h=>h,fun x hx=>hf.2 x (h2 x hx).1⟩
theorem CtxF.turnL (hc:CtxF no w0 S w l os R) (k:Nat) (hk:l[k]?=some (g,T,cs)) (hT:Turn (fun x=>x=g) w w') (hB:Blk w' g T cs'):
  CtxF no w0 (ext S w w') w' (J6 l k cs') os R/\Fut S w (ext S w w') w':=by
 have hgl:g<w.heap.size:=(hc.blk k hk).lt
 have hsz:w.heap.size<=w'.heap.size:=by
  by_cases e:g=w.heap.size-1
  ·have:=hB.lt
   omega
  ·have:=A0H (hT.block (w.heap.size-1) (by omega) (fun h=>e h.symm)) (by omega)
   omega
 have hg:w.grownBy w' (some g):=⟨hT.os,hT.tape,hT.output,hsz,fun x hx hn=>hT.block x hx (fun e=>hn (by rw [e]))⟩
 obtain⟨h1,h2⟩:=hc.ctx.turned k hk hg hB
 have hlow:∀ x∈J6 l k cs',x.1<w.heap.size:=fun x hx=>by
  obtain⟨y,hy,e⟩:=O5 hx
  rw [<-e]
  exact hc.ctx.locs.lt y hy
 have hf:Fut S w (ext S w w') w':=⟨fun x hx=>.inl hx,h2.2⟩
 refine⟨⟨⟨h1.below,fun _ h=>h.elim,fun x hx=>?_,fun x hx=>?_,h1.locs.mono (fun _ _=>rfl) (fun x hx hs=>?_)⟩,hc.own.step fun o ho a ha=>?_,hc.stab _ _ _ _ hc.row hf,hc.stab⟩,hf⟩
 ·rcases hx with hx | hx
  ·exact h1.new x hx
  ·exact .inr (Nat.le_trans hc.ctx.below.size hx.1)
 ·rcases hx with hx | hx
  ·exact h1.lt x hx
  ·exact hx.2
 ·rcases hs with hs | hs
  ·exact hs
  ·have:=hlow x hx
   omega
 ·have hO:=hc.own.mem o ho
  refine⟨hT.block _ (hO.lt ha).2 (fun e=>(hO.out a ha).2 _ (List.mem_of_getElem? hk) e.symm),fun hs=>?_,fun x hx=>?_⟩
  ·rcases hs with hs | hs
   ·exact (hO.out a ha).1 hs
   ·have:=(hO.lt ha).2
    omega
  ·obtain⟨y,hy,e⟩:=O5 hx
   rw [<-e]
   exact (hO.out a ha).2 y hy
end
def isG (x:Nat):Prop:=Go.Proofs.Tryz.prog.globalNamed "internal/strconv.uint64pow10"=some x\/Go.Proofs.Tryz.prog.globalNamed "strconv.ErrSyntax"=some x\/Go.Proofs.Tryz.prog.globalNamed "strconv.ErrRange"=some x
theorem B2R {w:World} {n:String} {v:Array Value} (h:w.var? Go.Proofs.Tryz.prog n=some v) {x:Nat} (hx:Go.Proofs.Tryz.prog.globalNamed n=some x):x<w.heap.size:=by
 unfold World.var? at h
 rw [hx,Option.bind_some] at h
 rcases Nat.lt_or_ge x w.heap.size with hl | hl
 ·exact hl
 ·rw [Array.getElem?_eq_none hl] at h;cases h
theorem B2S {w w':World} {n:String} {v:Array Value} (h:w.var? Go.Proofs.Tryz.prog n=some v) (hk:∀ x,Go.Proofs.Tryz.prog.globalNamed n=some x->w'.heap[x]?=w.heap[x]?):w'.var? Go.Proofs.Tryz.prog n=some v:=by
 unfold World.var? at*
 cases hg:Go.Proofs.Tryz.prog.globalNamed n with
 | none=>simp [hg] at h
 | some g=>
  simp only [hg,Option.bind_some] at h ⊢
  rw [hk g hg]
  exact h
theorem _root_.Go.Proofs.YtfekddndgakneaaGreatDoor.Env.lt {w:World} (h:Env w) (x:Nat) (hx:isG x):x<w.heap.size:=by
 rcases hx with hx | hx | hx
 ·exact B2R h.tab hx
 ·obtain⟨a,b,c⟩:=h.syn
  exact B2R c hx
 ·obtain⟨a,b,c⟩:=h.rng
  exact B2R c hx
theorem _root_.Go.Proofs.YtfekddndgakneaaGreatDoor.Env.of {w w':World} (h:Env w) (hk:∀ x,isG x->w'.heap[x]?=w.heap[x]?):Env w':=by
 obtain⟨a1,b1,c1⟩:=h.syn
 obtain⟨a2,b2,c2⟩:=h.rng
 exact⟨B2S h.tab fun x hx=>hk x (.inl hx),⟨a1,b1,B2S c1 fun x hx=>hk x (.inr (.inl hx))⟩,⟨a2,b2,B2S c2 fun x hx=>hk x (.inr (.inr hx))⟩⟩
def EnvFree (G:Nat->Prop) (w:World):Prop:=Env w/\∀ x,isG x->¬ G x
theorem _root_.Go.Proofs.YtfekddndgakneaaGreatDoor.Env.free {w0 w:World} {G:Nat->Prop} {X:Nat->Prop} (h:Env w0) (hb:Below w0.heap.size w0 w) (hG:∀ x,G x->X x/\w0.heap.size<=x):EnvFree G w:=
 ⟨h.below hb,fun x hx hg=>absurd (h.lt x hx) (Nat.not_lt.2 (hG x hg).2)⟩
theorem EnvFree.kept {G G':Nat->Prop} {w w':World} (h:EnvFree G w) (hk:∀ x,x<w.heap.size->¬ G x->¬ G' x/\w'.heap[x]?=w.heap[x]?):EnvFree G' w':=
 ⟨h.1.of fun x hx=>(hk x (h.1.lt x hx) (h.2 x hx)).2,fun x hx=>(hk x (h.1.lt x hx) (h.2 x hx)).1⟩
theorem EnvFree.sub {G S1 S Sa:Nat->Prop} {w w1:World} {R:Kn} (h:EnvFree G w) (h3:Sep 0 (Keep w G) R S1 w1) (h1:∀ x,S1 x->S x/\¬ Sa x):EnvFree Sa w1:=by
 obtain⟨Sk,Sr,k1,k2,k3,k4⟩:=h3
 exact h.kept fun x hx hg=>⟨(h1 x (k1 x (k3 x hx hg).1).1).2,(k3 x hx hg).2⟩
theorem EnvFree.now {G S:Nat->Prop} {w w1:World} {l:List LB} {os:List OR} {R O:Kn} (h:EnvFree G w) (hc:CtxF no (bare w) S w1 l os (Sep 0 (Sep 0 (Keep w G) R) O)):Env w1:=by
 obtain⟨S1,So,h1,h2,h3,h4⟩:=hc.row
 exact (h.sub h3 h1).1
def RecK (e:Nat) (A:Option Addr) (n cap:Nat) (xs:List Value):Kn:=fun S w=>xs.length=n/\n<=cap/\cap<=maxLen/\(A=none/\cap=0\/∃ g o cur,A=some ⟨g,o,none⟩/\S g/\Blk w g e cur/\o+cap<=cur.length/\(cur.drop o).take n=xs)
theorem RecK.stab (e:Nat) (A:Option Addr) (n cap:Nat) (xs:List Value):Stab (RecK e A n cap xs):=fun S w S' w' h f=>⟨h.1,h.2.1,h.2.2.1,h.2.2.2.elim .inl fun ⟨g,o,cur,h1,h2,h3,h4⟩=>.inr ⟨g,o,cur,h1,f.1 _ h2,h3.of_eq (f.2 _ h2),h4⟩⟩
theorem RecK.nil (e:Nat) (S:Nat->Prop) (w:World):RecK e none 0 0 [] S w:=⟨rfl,Nat.le_refl _,Nat.zero_le _,.inl ⟨rfl,rfl⟩⟩
theorem RecK.row {e n cap:Nat} {A:Option Addr} {xs:List Value} {S:Nat->Prop} {w:World} (h:RecK e A n cap xs S w):Row S w A n cap xs:=by
 obtain⟨h1,h2,h3,h4⟩:=h
 refine⟨h2,h3,fun hx=>?_⟩
 rcases h4 with ⟨_,h4⟩ | ⟨g,o,cur,rfl,hs,hB,hl,ht⟩
 ·exact absurd (List.eq_nil_of_length_eq_zero (by omega)) hx
 ·refine⟨_,rfl,hs,fun j u hu=>?_⟩
  rw [Addr.add_lit,hB.cell]
  rw [<-ht,List.getElem?_take] at hu
  split at hu
  ·rw [List.getElem?_drop] at hu
   exact hu
  ·cases hu
theorem A84 {w:World} {ad:Addr}:∀ (ys:List Value) (i:Nat),cellsAt w ad ys i->∀ j u,ys[j]?=some u->w.cell? (ad.add (i+j))=some u
 | [],_,_,j,u,h=>by cases h
 | v::r,i,h,j,u,hu=>by
  cases j with
  | zero=>cases hu;exact h.1
  | succ j=>rw [show i+(j+1)=i+1+j from by omega];exact A84 r (i+1) h.2 j u hu
theorem B2T {P:Program} {w0 w:World} {S:Nat->Prop} {l:List LB} {os:List OR} {R:Kn} {e t T n cap m c bytes:Nat} {A:Option Addr} {cs:Array Bool} {xs ys:List Value} {z:Value} {K:Value->World->Prop}
  (ht:P.underlying t=some (.slice e)) (hi:(P.info? e).map (fun i=>(i.zero,i.size,i.bytes))=some (some z,1,bytes)) (hzs:z.cells.size=1)
  (hc:CtxF no w0 S w l os (Sep w0.heap.size R (RecK e A n cap xs))) (hR:Stab R) {ad:Addr} (hy:cellsAt w ad ys 0) (hl:ys.length=m) (hm:0<m) (h1:G9 ys=true) (h63:n+m<=34359738368) (hby:bytes<=4096)
  (k:∀ A' cap' w' S',CtxF no w0 S' w' l os (Sep w0.heap.size R (RecK e A' (n+m) cap' (xs++ys)))->K (.slice A' (n+m) cap') w'):
  ∃ v w',(builtin .append #[t,t] T cs #[.slice A n cap,.slice (some ad) m c]).run P w=.ok (.value v) w'/\K v w':=by
 obtain⟨i,h2,h3,h4,h5⟩:=info_parts hi
 have hnews:∀ j u,ys[j]?=some u->w.cell? (ad.add j)=some u:=fun j u hu=>by have:=A84 ys 0 hy j u hu;rwa [Nat.zero_add] at this
 have hl':ys.length=m*i.size:=by rw [h4,hl,Nat.mul_one]
 have hmax:n+m<=maxLen:=Nat.le_trans h63 (by decide)
 have hbytes:(n+m)*i.bytes<=140737488355328:=by rw [h5];exact Nat.le_trans (Nat.mul_le_mul h63 hby) (by decide)
 obtain⟨S1,Sa,r1,r2,r3,hk1,hk2,hk3,hk4⟩:=hc.row
 have fin:∀ v w',(Builtin.append_ #[t,t] T #[.slice A n cap,.slice (some ad) m c]).run P w=.ok v w'->(∃ A' cap' Sn,v=.slice A' (n+m) cap'/\Turn Sa w w'/\(∀ x,Sn x->(Sa x\/w.heap.size<=x)/\x<w'.heap.size)/\RecK e A' (n+m) cap' (xs++ys) Sn w')->∃ v w',(builtin .append #[t,t] T cs #[.slice A n cap,.slice (some ad) m c]).run P w=.ok (.value v) w'/\K v w':=by
  intro v w' hr hh
  obtain⟨A',cap',Sn,rfl,hT,hSn,hO⟩:=hh
  refine⟨_,w',?_,k A' cap' w' _ (hc.turnO hR r1 r2 r3 hT hSn hO (RecK.stab _ _ _ _ _))⟩
  show (do pure (Next.value (<-Builtin.append_ #[t,t] T #[.slice A n cap,.slice (some ad) m c])):Sem Next).run P w=_
  simp only [Sem.run_bind,hr,Result.andThen_ok,Sem.run_pure]
 have grown:∀ (old:Nat),old<n+m->∃ A' cap' Sn,(Value.slice (some ⟨w.heap.size,0,none⟩) (n+m) (grownCap w (n+m) old e))=.slice A' (n+m) cap'/\Turn Sa w (w.drew.alloc (.cells (xs.toArray++ys.toArray++Builtin.zeroCells z.cells (grownCap w (n+m) old e-(n+m))) e))/\(∀ x,Sn x->(Sa x\/w.heap.size<=x)/\x<(w.drew.alloc (.cells (xs.toArray++ys.toArray++Builtin.zeroCells z.cells (grownCap w (n+m) old e-(n+m))) e)).heap.size)/\RecK e A' (n+m) cap' (xs++ys) Sn (w.drew.alloc (.cells (xs.toArray++ys.toArray++Builtin.zeroCells z.cells (grownCap w (n+m) old e-(n+m))) e)):=by
  intro old ho
  have hge:=grownCap_ge w (n+m) old e
  have hcm:grownCap w (n+m) old e<=maxLen:=grownCap_le_maxLen w (n+m) old e hmax
  have hsz:(w.drew.alloc (.cells (xs.toArray++ys.toArray++Builtin.zeroCells z.cells (grownCap w (n+m) old e-(n+m))) e)).heap.size=w.heap.size+1:=by simp
  have hlen:(xs++ys).length=n+m:=by rw [List.length_append,hk1,hl]
  refine⟨_,_,fun x=>x=w.heap.size,rfl,⟨rfl,rfl,rfl,fun x hx _=>heap_alloc_old w.drew _ hx⟩,fun x hx=>⟨.inr (Nat.le_of_eq hx.symm),by rw [hsz];show x<_;rw [show x=w.heap.size from hx];omega⟩,hlen,hge,hcm,.inr ⟨w.heap.size,0,(xs.toArray++ys.toArray++Builtin.zeroCells z.cells (grownCap w (n+m) old e-(n+m))).toList,rfl,rfl,heap_alloc_new w.drew _,?_,?_⟩⟩
  ·have e1:(xs.toArray++ys.toArray++Builtin.zeroCells z.cells (grownCap w (n+m) old e-(n+m))).toList.length=n+m+(grownCap w (n+m) old e-(n+m))*1:=by
    rw [Array.length_toList,Array.size_append,Array.size_append,List.size_toArray,List.size_toArray,size_zeroCells,hzs,hk1,hl]
   rw [e1]
   omega
  ·simp only [Array.toList_append,List.append_assoc,List.drop_zero]
   rw [<-List.append_assoc,<-hlen]
   exact List.take_left
 rcases hk4 with ⟨rfl,rfl⟩ | ⟨g,o,cur,rfl,hs,hB,hcl,htk⟩
 ·have hn:n=0:=by omega
  subst hn
  have hx:xs=[]:=List.eq_nil_of_length_eq_zero hk1
  subst hx
  have hr:=run_append_nil (P:=P) w t T e i z ht h2 h3 ad m c ys hl' hnews (by omega) (by omega) (by have hb:=hbytes;simp only [Nat.zero_add] at hb;omega)
  have hgr:=grown 0 (by omega)
  simp only [Nat.zero_add,List.nil_append,Array.empty_append] at hgr fin ⊢
  exact fin _ _ hr hgr
 ·by_cases hroom:n+m<=cap
  ·have hst:=run_storeCells_at P g (o+n) e ys 0 cur.toArray w hB (by simp only [List.size_toArray];omega) (M6 h1)
   have hf:=run_firstCells_some (P:=P) w i.size m ad m c ys hl' hnews
   rw [h4] at hf
   have hr:(Builtin.append_ #[t,t] T #[.slice (some ⟨g,o,none⟩) n cap,.slice (some ad) m c]).run P w=.ok (.slice (some ⟨g,o,none⟩) (n+m) cap) (w.setRow g (cur.take (o+n)++ys++cur.drop (o+n+ys.length)).toArray):=by
    simp only [Nat.add_zero] at hst
    simp [Builtin.append_,run_underlying ht,sizeOf,typeInfo,h2,Builtin.lenOf,hroom,hf,Addr.add_lit,h4] at hst ⊢
    show ((Sem.run P (storeCells ⟨g,o+n,none⟩ ys 0) w).andThen fun a w'=>Result.ok (Value.slice (some ⟨g,o,none⟩) (n+m) cap) w')=_
    rw [hst]
    rfl
   refine fin _ _ hr ⟨_,_,Sa,rfl,⟨rfl,rfl,rfl,fun x hx hn=>setRow_other w g x _ (fun e=>hn (e▸hs))⟩,fun x hx=>⟨.inl hx,?_⟩,by rw [List.length_append,hk1,hl],hroom,hk3,.inr ⟨g,o,cur.take (o+n)++ys++cur.drop (o+n+ys.length),rfl,hs,setRow_heap w g cur.toArray _ e (0,0) hB,?_,?_⟩⟩
   ·have:=hc.ctx.lt x (r2 x hx).1
    simpa using this
   ·simp only [List.length_append,List.length_take,List.length_drop]
    omega
   ·rw [List.append_assoc,List.drop_append_of_le_length (by rw [List.length_take];omega),List.drop_take,show o+n-o=n from by omega,htk,<-List.append_assoc]
    rw [show n+m=(xs++ys).length from by rw [List.length_append,hk1,hl]]
    exact List.take_left
  ·have holds:∀ j u,xs[j]?=some u->w.cell? ((⟨g,o,none⟩:Addr).add j)=some u:=fun j u hu=>by
    rw [Addr.add_lit,hB.cell]
    rw [<-htk,List.getElem?_take] at hu
    split at hu
    ·rw [List.getElem?_drop] at hu
     exact hu
    ·cases hu
   have hr:=run_append_grow (P:=P) w t T e i z ht h2 h3 ⟨g,o,none⟩ n cap xs (by rw [h4,Nat.mul_one];exact hk1) holds ad m c ys hl' hnews (by omega) (by simp only [maxLen] at hmax;omega) (growslice_fits (by omega) hbytes)
   exact fin _ _ hr (grown cap (by omega))
end Go.Vc
end
namespace Go.Proofs.YtfekddndgakneaaGreatDoor
open Go.Vc Go.RowKit Go.Fl
theorem A00:(Tryz.prog.info? 60).map (fun i=>(i.zero,i.size,i.bytes))=some (some (.agg #[.int .i64 0,.string ⟨#[]⟩,.string ⟨#[]⟩,.int .i64 0,.int .i64 0,.string ⟨#[]⟩,.int .i64 0,.int .i64 0]),8,88):=by kernel_rfl
theorem B6Z (a:Option Addr) (n c:Nat) (ox oy:Operand) (w:World):(do eqGuard .eql 28 ox oy (.slice a n c) (.slice none 0 0);Go.binOp .eql 28 (.slice a n c) (.slice none 0 0):Sem Value).run Tryz.prog w=.ok (.bool a.isNone) w:=by
 have h:=Lib.run_eql_slice_nil (P:=Tryz.prog) w 28 60 a n c 0 0 Tryz.underlying28
 simp only [eqGuard]
 simpa using h
theorem O8 (A:Option Addr) (n cap:Nat) (css:List (List Value)) (hF:Flat 8 css) (hn:css.length=n) (hb:n<=1000000) (S:Nat->Prop) (w:World) (hR:Row S w A n cap css.flatten):
  Calls Tryz.prog 151 #[.slice A n cap] w (B3R 60 8 n css.flatten w):=by
 refine vE Tryz.func151 ?_
 refine⟨_,fun w=>B6Z A n cap _ _ w,?_⟩
 cases A with
 | none=>
  obtain⟨h0,h1⟩:=Row.cut hR hF (by decide) hn rfl
  subst h0
  rw [h1]
  exact⟨none,0,rfl,Below.refl _ _,World.ownsRow_nil _ _ _ _⟩
 | some ad=>
  intro g w1 h1
  have hc:=Ctx.start w no (fun _ h=>h.elim)
  obtain⟨hc,hf,ho⟩:=Own.made hc h1 8 0 rfl (Nat.zero_le _)
  refine A02 Tryz.underlying28 A00 rfl (by decide) hc ho (hR.below h1.below) (by rw [hF.len,hn]) hF.ones (by omega) (by decide) ?_
  intro A' cap' w2 hc hf ho _
  rw [Nat.zero_add] at ho ⊢
  rw [List.nil_append] at ho
  exact⟨A',cap',rfl,hc.below,ho.row⟩
theorem A4e:(Tryz.prog.info? 9).map (fun i=>(i.zero,i.size,i.bytes))=some (some (.string ⟨#[]⟩),1,16):=by kernel_rfl
theorem B6a (a:Option Addr) (n c:Nat) (ox oy:Operand) (w:World):(do eqGuard .eql 83 ox oy (.slice a n c) (.slice none 0 0);Go.binOp .eql 83 (.slice a n c) (.slice none 0 0):Sem Value).run Tryz.prog w=.ok (.bool a.isNone) w:=by
 have h:=Lib.run_eql_slice_nil (P:=Tryz.prog) w 83 9 a n c 0 0 Tryz.underlying83
 simp only [eqGuard]
 simpa using h
theorem A4f (A:Option Addr) (n cap:Nat) (css:List (List Value)) (hF:Flat 1 css) (hn:css.length=n) (hb:n<=1000000) (S:Nat->Prop) (w:World) (hR:Row S w A n cap css.flatten):
  Calls Tryz.prog 55 #[.slice A n cap] w (B3R 9 1 n css.flatten w):=by
 refine vE Tryz.func55 ?_
 refine⟨_,fun w=>B6a A n cap _ _ w,?_⟩
 cases A with
 | none=>
  obtain⟨h0,h1⟩:=Row.cut hR hF (by decide) hn rfl
  subst h0
  rw [h1]
  exact⟨none,0,rfl,Below.refl _ _,World.ownsRow_nil _ _ _ _⟩
 | some ad=>
  intro g w1 h1
  have hc:=Ctx.start w no (fun _ h=>h.elim)
  obtain⟨hc,hf,ho⟩:=Own.made hc h1 1 0 rfl (Nat.zero_le _)
  refine A02 Tryz.underlying83 A4e rfl (by decide) hc ho (hR.below h1.below) (by rw [hF.len,hn]) hF.ones (by omega) (by decide) ?_
  intro A' cap' w2 hc hf ho _
  rw [Nat.zero_add] at ho ⊢
  rw [List.nil_append] at ho
  exact⟨A',cap',rfl,hc.below,ho.row⟩
end Go.Proofs.YtfekddndgakneaaGreatDoor
