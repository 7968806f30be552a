import Derived.Test.YtefdfaeieekioaaGreatDoorZ13
import Derived.Lib.ConvBytes
import Derived.Lib.UnsafeStr
import Derived.Laws.MakeOwn
import Derived.Lib.SliceRun
import Derived.KernelRfl
set_option maxRecDepth 100000
set_option maxHeartbeats 40000000
set_option linter.unusedVariables false
set_option linter.unusedSimpArgs false
section
namespace Go.Vx
open Go Go.Vc Go.RowKit
section
variable {M:Mach} {P:Program} {E:World->Prop} {F:Tr EV} {H H':Hp} {K:Kt} {σ:Sg} {w0 w:World} {f:Fr} {N:Nat}
theorem A3L {t e:Nat} (h:A4H P t=some e):P.underlying t=some (.slice e)/\P.underlying e=some (.int .u8):=by
 unfold A4H at h;split at h
 ·rename_i e' hu;split at h
  ·rename_i he;cases h;exact⟨hu,he⟩
  ·cases h
 ·cases h
theorem A7y {t:Nat} (h:A85 P t=true):P.underlying t=some .string:=by
 unfold A85 at h;split at h
 ·rename_i e;exact e
 ·cases h
theorem A4O {t e:Nat} (h:B1h P t=some e):P.underlying t=some (.pointer e):=by
 unfold B1h at h;split at h
 ·rename_i hu;cases h;exact hu
 ·cases h
theorem A7z {t:Nat} (h:B3f P t=true):P.underlying t=some .unsafePointer:=by
 unfold B3f at h;split at h
 ·rename_i hu;exact hu
 ·cases h
theorem B3v {x:EB} {b:UInt8} {v:Value} (h:B3e x=some b) (k:BR σ x v):v=.int .u8 (b.toNat:Int):=by
 unfold B3e at h;split at h
 ·rename_i n;obtain⟨h1,h2⟩:=B9W h;cases h2;have hn:n<256:=ze h1;have:v=.int .u8 (.ofNat n):=k;rw [this];have e:(UInt8.ofNat n).toNat=n:=by rw [UInt8.toNat_ofNat'];omega
  rw [e];rfl
 ·cases h
theorem A2e:∀ {xs:List EB} {l:List UInt8} {cs:List Value},A5n xs=some l->All2 (BR σ) xs cs->cs=l.map fun b=>.int .u8 (b.toNat:Int)
 | [],l,cs,h,k=>by
  cases h;exact k.none
 | x::xs,l,cs,h,k=>by
  cases cs with
  | nil=>exact k.elim
  | cons c cs=>
   replace h:(match B3e x,A5n xs with
    | some b,some r=>some (b::r)
    | _,_=>none)=some l:=h
   split at h
   ·rename_i b r hb hr;cases h;rw [B3v hb k.1,A2e hr k.2];rfl
   ·cases h
def B7X (w:World) (u:Value) (l:List UInt8):Prop:=∃ A cap,u=.slice A l.length cap/\(A=none->l=[])/\∀ a,A=some a->∀ j x,l[j]?=some x->w.cell? (a.add j)=some (.int .u8 (x.toNat:Int))
theorem A5u {v:EV} {l:List UInt8} {u:Value} (h:sliceB v H=some l) (hR:Rep w0 σ H w) (hu:VR σ v u):B7X w u l:=by
 unfold sliceB at h;split at h
 ·obtain⟨h1,h2⟩:=B9W h;cases h2;have:=z8 h1;subst this;cases hu;exact⟨none,_,rfl,fun _=>rfl,fun a h=>by cases h⟩
 ·rename_i N o n c;obtain⟨q,a,cp,hq,hc,rfl⟩:=hu;cases hb:Nat.beq n 0 with
  | true=>
   rw [hb] at h;cases h;have:=z8 hb;subst this;exact⟨some a,cp,rfl,fun h=>(by cases h),fun a _ j x hx=>by cases hx⟩
  | false=>
   rw [hb,cond_false] at h;have key:∀ {xs:List EB},rowR H N=some xs->a=⟨q.b,q.o+o,none⟩->cond (Nat.ble (Nat.add o n) xs.length) (A5n ((xs.drop o).take n)) none=some l->B7X w (.slice (some a) n cp) l:=fun hr ha h3=>by
    obtain⟨h4,h5⟩:=B9W h3;obtain⟨q',cs,k1,k2,k3,k4⟩:=hR.rowR hr o n (ze h4);rw [hq] at k1;cases k1;subst ha;have hcs:=A2e h5 k2;have hl:l.length=n:=by rw [<-k3,hcs,zj]
    refine⟨_,cp,by rw [hl],fun h=>(by cases h),fun a' ha' j x hx=>?_⟩;cases ha';have:=G9 cs 0 k4 j (.int .u8 (x.toNat:Int)) (by rw [hcs,List.getElem?_map,hx];rfl);rwa [zm] at this
   cases hr:rowR H N with
   | none=>rw [hr] at h;cases c<;>cases h
   | some xs=>
    rw [hr] at h;cases c with
    | k c=>exact key hr hc.1 h
    | j d b=>exact key hr hc.1 h
    | z d=>cases h
 ·cases h
theorem A5v {g T:Nat} {cs:List Value} (h:Blk w g T cs):w.shape? g=some (T,cs.length):=by unfold World.shape?;rw [show w.heap[g]?=_ from h];simp
theorem B3w {nm:Option Nat} {s d:Nat} {v:EV} (h:B3g M nm s d v H K=true):∃ v' H',K v' H'=true/\∀ (w0:World) σ w u,Rep w0 σ H w->VR σ v u->A0X M.P (Go.convert s d u) w0 σ w v' H':=by
 unfold B3g at h;split at h
 ·rename_i b;split at h
  ·rename_i e he;obtain⟨hd,hu8⟩:=A3L he;obtain⟨h1,h2⟩:=B6 h;rw [z7] at h1;have hs:=A7y h1.1;have hlen:=ze h1.2;rw [X9] at h2;obtain⟨N,H',h3,h4,h5⟩:=A4J h2;rw [V8] at h3;refine⟨_,H',h3,fun w0 σ w u hR hu=>?_⟩;cases hu;have hsz:b.size=b.data.toList.length:=by rw [Array.length_toList];rfl
   have hcap:b.size<=maxLen:=by simp only [maxLen];omega
   have hx:=O9 hR h4 ⟨w.heap.size,0,grownCap w b.size 0 e⟩;have hnew:Rep w0 (A3H σ N ⟨w.heap.size,0,grownCap w b.size 0 e⟩) H' (Lib.bytesWorld w e b):=hR.new _ (Lib.bytesWorld_below w e b) (zc _) h4 h5 ⟨_,b.data.toList.map fun c=>.int .u8 (c.toNat:Int),y6 rfl,hR.below.size,⟨by rw [Lib.bytesWorld_size];exact Nat.lt_succ_self _,grownCap_le_maxLen w b.size 0 e hcap⟩,
    All2.map (R:=BR _) (fun c:UInt8=>EB.l (.int .u8 (.ofNat c.toNat))) (fun c=>Value.int .u8 (c.toNat:Int)) (fun c=>rfl) b.data.toList,fun j v hj=>by
     have hlt:j<b.data.toList.length:=by
      rcases zl j b.data.toList.length with h | h
      ·exact h
      ·rw [List.getElem?_eq_none (by rw [zj];exact h)] at hj;cases hj
     rw [List.getElem?_map,List.getElem?_eq_getElem hlt] at hj;cases hj;show (Lib.bytesWorld w e b).cell? ⟨w.heap.size,0+j,none⟩=_;rw [zm,Lib.bytesWorld_cell w e b j (by omega),List.getD_eq_getElem?_getD,List.getElem?_eq_getElem hlt];rfl⟩
   refine⟨_,_,Lib.run_convert_string_bytes w s d e b hs hd hu8,_,hx,⟨_,_,_,y6 rfl,⟨rfl,rfl,zc _,?_⟩,?_⟩,hnew⟩
   ·rw [zj,<-hsz];exact grownCap_ge w b.size 0 e
   ·rw [zj,<-hsz];rfl
  ·cases h
 ·rename_i N o;split at h
  ·rename_i T xs he;obtain⟨h1,h2⟩:=B6 h;have ho:o<xs.length:=ze h1;have ptr:∀ (w0:World) σ w u,Rep w0 σ H w->VR σ (.o (.p N o)) u->∃ q:Pl,u=.pointer (some ⟨q.b,o,none⟩)/\w.shape? q.b=some (T,xs.length):=fun w0 σ w u hR hu=>by obtain⟨q,hq,rfl⟩:=hu;obtain⟨q',cur,cs,k1,k2,k3,k4,k5,k6,k7⟩:=hR.ent N _ he;rw [hq] at k1;cases k1;obtain⟨k8,k9⟩:=k4 rfl;refine⟨q,by rw [k8,zm],?_⟩;rw [A5v k3,k9]
   split at h2
   ·rename_i t hs hd;obtain⟨h3,h4⟩:=B6 h2;rw [z7] at h3;refine⟨_,H,h4,fun w0 σ w u hR hu=>?_⟩;obtain⟨q,rfl,hsh⟩:=ptr w0 σ w u hR hu;have hi:=h3.2;unfold B4e at hi;split at hi
    ·rename_i j hj;have hz:j.size≠0:=fun e=>by rw [e] at hi;cases hi
     exact⟨_,_,Lib.run_to_unsafe w _ (A4O hs) (A7z h3.1) hj hz hsh ho,σ,Ex.refl _,hu,hR⟩
    ·cases hi
   ·rename_i u' hs hd;obtain⟨h3,h4⟩:=B6 h2;simp only [z7] at h3;refine⟨_,H,h4,fun w0 σ w u hR hu=>?_⟩;obtain⟨q,rfl,hsh⟩:=ptr w0 σ w u hR hu;obtain⟨j,hj⟩:=Option.isSome_iff_exists.1 h3.1.2;exact⟨_,_,Lib.run_from_unsafe w _ (A7z h3.1.1) (A4O hd) hj hsh h3.2,σ,Ex.refl _,hu,hR⟩
   ·cases h2
  ·cases h
 ·obtain⟨h1,h2⟩:=B6 h;have hd:=A7y h1;split at h2
  ·rename_i e l he hl;obtain⟨hs,hu8⟩:=A3L he;rw [X9] at h2;refine⟨_,H,h2,fun w0 σ w u hR hu=>?_⟩;obtain⟨A,cap,rfl,k2,k3⟩:=A5u hl hR hu;have hrun:(Go.convert s d (.slice A l.length cap)).run M.P w=.ok (.string ⟨l.toArray⟩) w:=by
    cases A with
    | none=>
     have:=k2 rfl;subst this;show (Go.convert s d (.slice none 0 cap)).run M.P w=_;rw [run_convert_bytes_string w s d e none 0 cap hs hu8 hd];rfl
    | some a=>exact run_convert_bytes_back w s d e a cap l hs hu8 hd fun j hj=>k3 a rfl j _ (List.getElem?_eq_getElem hj)
   exact⟨_,_,hrun,σ,Ex.refl _,rfl,hR⟩
  ·cases h2
theorem B3x {v:EV} (h:B58 v H K=true):∃ v' H',K v' H'=true/\∀ (w0:World) σ w u ts T,Rep w0 σ H w->VR σ v u->A0X P (Builtin.unsafeSliceData_ ts T #[u]) w0 σ w v' H':=by
 unfold B58 at h;split at h
 ·refine⟨_,H,h,fun w0 σ w u ts T hR hu=>?_⟩;cases hu;exact⟨_,_,Lib.run_unsafeSliceData_nil w ts T _ _,σ,Ex.refl _,rfl,hR⟩
 ·rename_i N o n c;obtain⟨h1,h2⟩:=B6 h;refine⟨_,H,h2,fun w0 σ w u ts T hR hu=>?_⟩;obtain⟨q,a,cp,hq,hc,rfl⟩:=hu;have hpos:cp≠0/\a=⟨q.b,q.o+o,none⟩:=by
   unfold B4f at h1;cases c with
   | k c=>
    refine⟨fun e=>?_,hc.1⟩;have h3:(!Nat.beq c 0)=true:=h1;rw [<-hc.2.1,e] at h3;cases h3
   | j d b=>
    refine⟨fun e=>?_,hc.1⟩;have h3:(!Nat.beq b 0)=true:=h1;have h4:=hc.2.2.2;rw [e] at h4;have:b=0:=Nat.le_zero.1 h4;rw [this] at h3;cases h3
   | z d=>cases h1
  obtain⟨hcp,rfl⟩:=hpos;exact⟨_,_,Lib.run_unsafeSliceData_row w ts T _ n cp hcp,σ,Ex.refl _,⟨q,hq,rfl⟩,hR⟩
 ·cases h
theorem A9F {e:TypeId} (hc:P.cellsOf e=1) (count off n:Nat) (hn:off+n<=count):liesAt P P.depth e count off e n=true:=by have hd:P.depth=(2*(P.types.size+Made.depth)+1)+1:=rfl;rw [hd];simp only [liesAt,Bool.or_eq_true];left;rw [hd];simp [rowAt,hc,hn,sameLayout];exact .inl (Nat.mod_one off)
theorem B3y {pt it ty e:TypeId} (hp:P.underlying pt=some (.pointer e)) (hc:P.cellsOf e=1) {g off cells:Nat} (hsh:w.shape? g=some (e,cells)) (l:List UInt8) (h0:l≠[]) (hn:off+l.length<=cells) (h63:l.length<=9223372036854775807)
  (hcell:∀ j x,l[j]?=some x->w.cell? ((⟨g,off,none⟩:Addr).add j)=some (.int .u8 x.toNat)):
  (Builtin.unsafeString_ #[pt,it] ty #[.pointer (some ⟨g,off,none⟩),.int .i64 l.length]).run P w=.ok (.string ⟨l.toArray⟩) (w.freeze ⟨g,off,none⟩ l.length):=by
 have hl:l.length≠0:=by simpa using h0
 have hlb:=Lib.run_loadBytes (P:=P) w l ⟨g,off,none⟩ .empty hcell;have hlies:=A9F (P:=P) hc (cells / P.cellsOf e) off l.length (by rw [hc];simpa using hn);have h63':¬ (9223372036854775807:Int)<(l.length:Int):=by omega
 have hdef:Builtin.unsafeString_ #[pt,it] ty #[.pointer (some ⟨g,off,none⟩),.int .i64 l.length]=
   (do
    let n <-asInt (.int .i64 l.length)
    if n<0 then runtimePanic (.error "unsafe.String: len out of range")
    if n > IntKind.i64.max then unsupported (.unsafePointer "String: a length above the largest int")
    if n=0 then pure (.string .empty)
    else if <-variablesAt ⟨g,off,none⟩ (<-Go.elemOf pt) n.toNat then do
     let s <-loadBytes ⟨g,off,none⟩ .empty n.toNat
     freeze ⟨g,off,none⟩ n.toNat
     pure (.string s)
    else unsupported (.unsafePointer "String: not so many bytes at ptr")):=rfl
 rw [hdef];have hmax:IntKind.i64.max=9223372036854775807:=rfl;have hneg:¬ (l.length:Int)<0:=by omega
 simp [asInt,asIntOf,hmax,h63',hneg,hl,variablesAt,hsh,Go.elemOf,run_underlying hp,hlies,hlb]
theorem A5w {p:Addr} {n b:Nat} (hb:b≠p.block):(w.freeze p n).heap[b]?=w.heap[b]?:=by
 unfold World.freeze;split
 ·rfl
 ·simp only [Array.getElem?_modify];rw [y7 (fun e=>hb e.symm)]
theorem A6k {p:Addr} {n:Nat} (a:Addr):(w.freeze p n).cell? a=w.cell? a:=by
 unfold World.freeze;split
 ·rfl
 ·have key:∀ (f:Obj->Obj),(∀ c e fz,∃ fz',f (.cells c e fz)=.cells c e fz')->(∀ o,(∀ c e fz,o≠.cells c e fz)->f o=o)->({ w with heap:=w.heap.modify p.block f }:World).cell? a=w.cell? a:=fun f h1 h2=>by
   show (match (w.heap.modify p.block f)[a.block]? with
    | some (.cells c _ _)=>if a.spot.isSome then none else c[a.off]?
    | _=>none)=_
   rw [Array.getElem?_modify];unfold World.cell?;by_cases hb:p.block=a.block
   ·rw [y6 hb];cases w.heap[a.block]? with
    | none=>rfl
    | some o=>
     cases o
     case cells c e fz=>
      obtain⟨fz',h3⟩:=h1 c e fz;rw [Option.map_some,h3]
     all_goals
      rw [Option.map_some,h2 _ (fun c e fz h=>by cases h)]
   ·rw [y7 hb];rfl
  refine key _ (fun c e fz=>⟨_,rfl⟩) (fun o ho=>?_);cases o<;>first | rfl | exact absurd rfl (ho _ _ _)
theorem A6l {p:Addr} {n:Nat}:(w.freeze p n).os=w.os/\(w.freeze p n).tape=w.tape/\(w.freeze p n).output=w.output/\(w.freeze p n).heap.size=w.heap.size:=by
 unfold World.freeze;split
 ·exact⟨rfl,rfl,rfl,rfl⟩
 ·exact⟨rfl,rfl,rfl,by simp⟩
theorem B3z {pt it:Nat} {p:EV} {n:Int} (h:B59 M pt p n H K=true):∃ v' H',K v' H'=true/\∀ (w0:World) σ w u T,Rep w0 σ H w->VR σ p u->A0X M.P (Builtin.unsafeString_ #[pt,it] T #[u,.int .i64 n]) w0 σ w v' H':=by
 unfold B59 at h;split at h
 ·rename_i n;cases hb:Nat.beq n 0 with
  | true=>
   rw [hb,cond_true] at h;have:=z8 hb;subst this;split at h
   ·refine⟨_,H,h,fun w0 σ w u T hR hu=>?_⟩;cases hu;exact⟨_,_,Lib.run_unsafeString_none w pt it T none,σ,Ex.refl _,rfl,hR⟩
   ·refine⟨_,H,h,fun w0 σ w u T hR hu=>?_⟩;obtain⟨q,hq,rfl⟩:=hu;exact⟨_,_,Lib.run_unsafeString_none w pt it T (some _),σ,Ex.refl _,rfl,hR⟩
   ·cases h
  | false=>
   rw [hb,cond_false] at h;split at h
   ·rename_i N o;split at h
    ·rename_i T' sz xs e hr hp;obtain⟨h1,h2⟩:=B6 h;simp only [z7,Bool.not_eq_true'] at h1;obtain⟨⟨⟨⟨b1,b2⟩,b3⟩,b4⟩,b5⟩:=h1;have e1:=z8 b1;subst e1;have hn:o+n<=xs.length:=ze b4;have h63:=ze b5;have hz:sz≠0:=fun e=>by rw [e] at b3;cases b3
     split at h2
     ·rename_i l hl;rw [X9] at h2;obtain⟨t',h3,h4⟩:=Tr.setK_ok _ _ _ _ h2;refine⟨_,_,h3,fun w0 σ w u T hR hu=>?_⟩;obtain⟨q,hq,rfl⟩:=hu;have he:=A1T hr;obtain⟨q0,ds,m1,m2,m3,m4⟩:=hR.row he o n hn;obtain⟨q',cur,cs,k1,k2,k3,k4,k5,k6,k7⟩:=hR.ent N _ he;rw [show σ N=some q from hq] at k1 m1;cases k1;cases m1;have hds:=A2e hl m2;have hll:l.length=n:=by rw [<-m3,hds,zj]
      subst hll;have hlc:=k6.len;have hne:l≠[]:=fun e=>by rw [e] at hb;cases hb
      have hfit:q.o+o+l.length<=cur.length:=by
       have hpos:0<l.length:=List.length_pos_iff.2 hne;have:=k7 (o+l.length-1) _ (List.getElem?_eq_getElem (by omega));rcases zl (q.o+(o+l.length-1)) cur.length with hh | hh
       ·omega
       ·rw [List.getElem?_eq_none hh] at this;cases this
      have hrun:=B3y (P:=M.P) (w:=w) (it:=it) (ty:=T) (A4O hp) (z8 b2) (A5v k3) l hne hfit (by omega) (fun j x hx=>by have:=G9 ds 0 m4 j (.int .u8 (x.toNat:Int)) (by rw [hds,List.getElem?_map,hx];rfl);rwa [zm] at this);refine⟨_,_,hrun,σ,Ex.refl _,rfl,?_⟩;obtain⟨f1,f2,f3,f4⟩:=A6l (w:=w) (p:=⟨q.b,q.o+o,none⟩) (n:=l.length);exact hR.turn (H':=⟨t',H.n⟩) he rfl hq (Nat.le_of_eq f4.symm) ⟨f1,f2,f3⟩ (fun b hb _=>A5w hb) h4 ⟨q,cs,hq,k2,⟨by rw [f4];exact k3.lt,(k5 hz).2⟩,k6,fun j v hj=>by rw [A6k,k3.cell];exact k7 j v hj⟩
     ·cases h2
    ·cases h
   ·cases h
 ·cases h
theorem B1u {e:Nat} {d:TD} {z:Value} {i:TypeInfo} (h:B4m P e d) (hg:d.isAgg=false) (hz:d.zero=[z]) (hi:P.info? e=some i):i.zero=some z/\i.size=1/\z.cells=#[z]:=by
 have key:∀ {z':Value},szV P e 1 z'->z'=z->z'.cells=#[z']->i.zero=some z/\i.size=1/\z.cells=#[z]:=fun hs e1 hc=>by subst e1;unfold szV at hs;rw [hi] at hs;simp at hs;exact⟨hs.2,hs.1,hc⟩
 cases d with
 | none=>cases hz
 | int k=>cases hz;exact key h.2 rfl rfl
 | str=>cases hz;exact key h.2 rfl rfl
 | bool=>cases hz;exact key h.2 rfl rfl
 | slice e' s=>cases hz;exact key h.2.1 rfl rfl
 | one z'=>cases hz;exact key h.2.1 rfl h.2.2
 | array n e' s z'=>cases hg
 | struct fs z'=>cases hg
theorem B30 (z:Value) (c:Nat):madeCells #[z] c=(List.replicate c z).toArray:=by
 apply Array.ext
 ·simp [madeCells]
 ·intro j h1 h2;simp [madeCells,Nat.mod_one]
theorem B31 (hM:MachOk M E) {nm:Option Nat} {t:Nat} {l c:EV} (h:B3h M nm t l c H K=true):∃ v' H',K v' H'=true/\∀ (w0:World) σ w u u',Rep w0 σ H w->VR σ l u->VR σ c u'->A0X M.P (Instr.makeSlice t u u') w0 σ w v' H':=by
 unfold B3h at h;split at h
 ·rename_i kl n kc c e esz hd;split at h
  ·rename_i i z hi hg hz;obtain⟨h1,h2⟩:=B6 h;simp only [z7] at h1;obtain⟨⟨⟨b1,b2⟩,b3⟩,b4⟩:=h1;have b1:=ze b1;have b2:=ze b2;have b3:=z8 b3;have b4:=ze b4;obtain⟨N,H',h3,h4,h5⟩:=A0s h2;refine⟨_,H',h3,fun w0 σ w u u' hR hu hu'=>?_⟩;cases hu;cases hu';have ht:=hM.lay.ty t;rw [hd] at ht;have hzv:=B1u (hM.lay.ty e) hg hz hi;have hby:(i.bytes:Int)*(c:Int)<=281474976710656:=by have:i.bytes*c<=4096*10000:=Nat.mul_le_mul b4 b2;have:((i.bytes*c:Nat):Int)<=((4096*10000:Nat):Int):=Int.ofNat_le.2 this;rw [Int.natCast_mul] at this;omega
   have hrun:=run_makeSlice (P:=M.P) (w:=w) t e i z ht.1 hi hzv.1 kl kc (n:Int) (c:Int) (Int.natCast_nonneg n) (by omega) (by rw [zh,hzv.2.1];omega) hby (by omega);rw [zh,zh,hzv.2.1,Nat.mul_one] at hrun;have hcells:madeCells z.cells c=(List.replicate c z).toArray:=by rw [hzv.2.2];exact B30 z c
   rw [hcells] at hrun;have hrep:All2 (BR σ) (List.replicate c (EB.l z)) (List.replicate c z):=by have:=V9 σ (List.replicate c z);rwa [List.map_replicate] at this
   obtain⟨g1,g2,g3⟩:=hR.alloc hrep (⟨rfl,rfl⟩:New w (List.replicate c z) e w.heap.size _) h4 h5;exact⟨_,_,hrun,_,g1,⟨_,_,c,g2,⟨rfl,rfl,b1⟩,rfl⟩,g3⟩
  ·cases h
 ·cases h
end
end Go.Vx
end
section
namespace Go.Vx
open Go Go.Vc Go.RowKit
section
variable {M:Mach} {E:World->Prop} {F:Tr EV} {H:Hp} {K:Kt} {σ:Sg} {w0 w:World} {f:Fr}
theorem B32 {P:Program} {e:Nat} {d:TD} {z:Value} (h:B4m P e d) (hg:d.isAgg=false) (hz:d.zero=[z]) (w:World):(zeroValue e).run P w=.ok z w:=by
 cases d with
 | none=>cases hz
 | int k=>cases hz;exact D9 h.2 w
 | str=>cases hz;exact D9 h.2 w
 | bool=>cases hz;exact D9 h.2 w
 | slice e' s=>cases hz;exact D9 h.2.1 w
 | one z'=>cases hz;exact D9 h.2.1 w
 | array n e' s z'=>cases hg
 | struct fs z'=>cases hg
def B7Y (P:Program) (b:Builtin) (ats:List Nat) (T:Nat) (cs:Array Bool) (us:List Value) (w0:World) (σ:Sg) (w:World) (v:EV) (H':Hp):Prop:=∃ v' w',(builtin b ats.toArray T cs us.toArray).run P w=.ok (.value v') w'/\∃ τ,Ex σ τ/\VR τ v v'/\Rep w0 τ H' w'
theorem B7Z (hM:MachOk M E) {b:Builtin} {ats:List Nat} {xs:List EV} (h:xBu M b ats xs H K=true):∃ v H',K v H'=true/\∀ (w0:World) σ w us T cs,Rep w0 σ H w->All2 (VR σ) xs us->B7Y M.P b ats T cs us w0 σ w v H':=by
 unfold xBu at h;split at h
 ·rename_i t tx s x;split at h
  ·rename_i e esz he;obtain⟨h1,h2⟩:=B6 h;obtain⟨i,z,hA⟩:=B6G h1;split at h2
   ·rename_i m news hn;rw [V8,X9] at h2;have hone:B4c news=true\/news=[]\/m=0:=by
     by_cases hm:m=0
     ·exact .inr (.inr hm)
     ·have hb:Nat.beq m 0=false:=by
       cases hb:Nat.beq m 0 with
       | false=>rfl
       | true=>exact absurd (z8 hb) hm
      unfold A2b at h2;rw [hb] at h2;split at h2
      ·obtain⟨_,h4⟩:=B6 h2;obtain⟨h5,_⟩:=B6 h4;rw [z7,z7] at h5;exact .inl h5.1.1
      ·obtain⟨h5,_⟩:=B6 h2;rw [z7,z7,z7] at h5;exact .inl h5.1.1.1
      ·cases h2
    have h2':A2b e esz s m news H (fun v H=>fV v fun v=>K v H)=true:=h2;obtain⟨v,H',k1,k2⟩:=A9A (tx:=tx) hA h2';rw [A1J] at k1;refine⟨v,H',k1,fun w0 σ w us T cs hR hx=>?_⟩;obtain⟨u,u',rfl,hu,hu'⟩:=hx.two;have hnews:∃ us,Src M.P esz tx u' m us w/\All2 (BR σ) news us:=by
     rcases hone with h3 | h3
     ·exact A7v hn h3 hR hu'
     ·exact A7v hn (by
       have:news=[]:=by
        rcases h3 with h3 | h3
        ·exact h3
        ·subst h3;have:=B1p hn;rw [Nat.zero_mul] at this;exact zn this
       rw [this];rfl) hR hu'
    obtain⟨ws,hS,hw⟩:=hnews;obtain⟨v',w',r1,τ,r2,r3,r4⟩:=k2 w0 σ w u u' ws hR hu hw hS T;refine⟨v',w',?_,τ,r2,r3,r4⟩;show (do pure (Next.value (<-Builtin.append_ #[t,tx] T #[u,u'])):Sem Next).run M.P w=_;simp only [Sem.run_bind,r1,Result.andThen_ok,Sem.run_pure]
   ·cases h2
  ·cases h
 ·rename_i t kt m k;obtain⟨H',h1,h2⟩:=A9E (kt':=kt) h;refine⟨_,H',h1,fun w0 σ w us T cs hR hx=>?_⟩;obtain⟨u,u',rfl,hu,hu'⟩:=hx.two;obtain⟨w',r1,r2⟩:=h2 w0 σ w u u' T hR hu hu';refine⟨_,w',?_,σ,Ex.refl _,rfl,r2⟩;show (do pure (Next.value (<-Builtin.delete_ #[t,kt] T #[u,u'])):Sem Next).run M.P w=_;simp only [Sem.run_bind,r1,Result.andThen_ok,Sem.run_pure];rfl
 ·rename_i ty v;obtain⟨v',H',h1,h2⟩:=B3x (P:=M.P) h;refine⟨_,H',h1,fun w0 σ w us T cs hR hx=>?_⟩;obtain⟨u,rfl,hu⟩:=hx.one;obtain⟨u',w',r1,r2⟩:=h2 w0 σ w u #[ty] T hR hu;refine⟨u',w',?_,r2⟩;show (do pure (Next.value (<-Builtin.unsafeSliceData_ #[ty] T #[u])):Sem Next).run M.P w=_;simp only [Sem.run_bind,r1,Result.andThen_ok,Sem.run_pure]
 ·rename_i pt it p n;obtain⟨v',H',h1,h2⟩:=B3z (it:=it) h;refine⟨_,H',h1,fun w0 σ w us T cs hR hx=>?_⟩;obtain⟨u,u',rfl,hu,hu'⟩:=hx.two;cases hu';obtain⟨u',w',r1,r2⟩:=h2 w0 σ w u T hR hu;refine⟨u',w',?_,r2⟩;show (do pure (Next.value (<-Builtin.unsafeString_ #[pt,it] T #[u,.int .i64 n])):Sem Next).run M.P w=_;simp only [Sem.run_bind,r1,Result.andThen_ok,Sem.run_pure]
 ·rename_i t N o n c;split at h
  ·rename_i e esz T sz xs he hr;split at h
   ·rename_i z hz;obtain⟨h1,h2⟩:=B6 h;rw [X9] at h2;obtain⟨t',h3,h4⟩:=Tr.setK_ok _ _ _ _ h2;simp only [z7,Bool.not_eq_true'] at h1;obtain⟨⟨⟨⟨⟨b1,b6⟩,b2⟩,b3⟩,b4⟩,b5⟩:=h1;refine⟨_,_,h3,fun w0 σ w us T' cs hR hx=>?_⟩;obtain⟨u,rfl,hu⟩:=hx.one;obtain⟨q,a,cp,hq,hc,rfl⟩:=hu;have ha:a=⟨q.b,q.o+o,none⟩:=by
     cases c with
     | k c=>exact hc.1
     | j d b=>exact hc.1
     | z d=>cases b5
    subst ha;have hn:n≠0:=fun e=>by rw [e] at b2;cases b2
    have hrep:All2 (BR σ) (List.replicate n (EB.l z)) (List.replicate n z):=by have:=V9 σ (List.replicate n z);rwa [List.map_replicate] at this
    obtain⟨q',k1,k2,k3⟩:=hR.store (H':=⟨t',H.n⟩) (A1T hr) hrep (fun u hu=>by rw [List.eq_of_mem_replicate hu];exact b3) (by rw [List.length_replicate];exact ze b4) h4;rw [hq] at k1;cases k1;have cells:∀ (us:List Value) (k:Nat),C7 w ⟨q.b,q.o+o,none⟩ us k->∀ j,j<us.length->(w.cell? ⟨q.b,q.o+o+(k+j),none⟩).isSome=true/\w.frozen? ⟨q.b,q.o+o+(k+j),none⟩=false:=by
     intro us;induction us with
     | nil=>intro k _ j hj;cases hj
     | cons u us ih=>
      intro k hm j hj;obtain⟨⟨x,hx1⟩,hx2,hx3,hx4⟩:=hm;cases j with
      | zero=>
       rw [Addr.add_lit] at hx1 hx2;exact⟨by rw [Nat.add_zero,hx1];rfl,hx2⟩
      | succ j=>
       have:=ih (k+1) hx4 j (by rw [zi] at hj;omega);rwa [show k+1+j=k+(j+1) by omega] at this
    have cells0:=cells _ 0 k2;rw [List.length_replicate] at cells0;have hty:=hM.lay.ty e;have hrun:=Lib.run_clear_slice (P:=M.P) w t e T' z (by
     have:=hM.lay.ty t;rw [A5s he] at this;exact this.1) (B32 hty b6 hz) (A5f b3) b3 q.b (q.o+o) n cp (by omega)
     (fun j hj=>by have:=(cells0 j hj).1;rwa [zm] at this) (fun j hj=>by have:=(cells0 j hj).2;rwa [zm] at this)
    refine⟨_,_,?_,σ,Ex.refl _,rfl,k3 _ (Z4 q.b (q.o+o) 0 (List.replicate n z) w)⟩;show (do pure (Next.value (<-Builtin.clear_ #[t] T' #[.slice (some ⟨q.b,q.o+o,none⟩) n cp])):Sem Next).run M.P w=_;simp only [Sem.run_bind,hrun,Result.andThen_ok,Sem.run_pure];rfl
   ·cases h
  ·cases h
 ·cases h
end
end Go.Vx
end
section
namespace Go.Vx
open Go Go.Vc Go.RowKit
section
variable {M:Mach} {E:World->Prop} {F:Tr EV} {H:Hp} {K:Kt} {σ:Sg} {w0 w:World} {f:Fr}
theorem B9O {P:Program} {L:Lay} {T:Nat} {op:Op} {R:Value->World->Prop} (h:pOp P L T op f fun v=>R v w) (hc:∀ c,op≠.call c):vOp P L T op f w R:=by
 cases op
 case call c=>exact absurd rfl (hc c)
 case convert s d x=>
  have h':(match L.ty s,L.ty d,ev f x with
   | .int _,.int k',.int _ n=>(fun v=>R v w) (.int k' (k'.wrap n))
   | .str,.str,.string s=>(fun v=>R v w) (.string s)
   | _,_,x=>Pure P (convert s d x) fun v=>R v w):=h
  show (match L.ty s,L.ty d,ev f x with
   | .int _,.int k',.int _ n=>R (.int k' (k'.wrap n)) w
   | .str,.str,.string s=>R (.string s) w
   | _,_,x=>Runs P (convert s d x) w R)
  have key:∀ u:Value,Pure P (convert s d u) (fun v=>R v w)->Runs P (convert s d u) w R:=fun u ⟨v,h1,h2⟩=>⟨v,w,h1 w,h2⟩;revert h';generalize L.ty s=ds;generalize L.ty d=dd;generalize ev f x=u;intro h';cases ds with
  | int k=>cases dd with
   | int k'=>cases u with
    | int k'' n=>exact h'
    | _=>exact key _ h'
   | _=>exact key _ h'
  | str=>cases dd with
   | str=>cases u with
    | string s=>exact h'
    | _=>exact key _ h'
   | _=>exact key _ h'
  | _=>exact key _ h'
 all_goals first | exact h | exact h.elim
theorem B6H (hM:MachOk M E) {T:Nat} {op:Op} {v:EV} (h:xP M.P M.L M.Q T op F=some v) (hk:fV v (fun v=>K v H)=true) (hc:∀ c,op≠.call c):∃ v H',K v H'=true/\A89 E F H v H' (fun f w R=>vOp M.P M.L T op f w R):=by rw [A1J] at hk;exact⟨_,_,hk,fun w0 σ f w hE hF hR R hK=>B9O (B7O hF h fun u hu=>hK σ u w (Ex.refl _) hu hR) hc⟩
theorem B8V (hM:MachOk M E) {T:Nat} {op:Op} (h:(match xP M.P M.L M.Q T op F with
  | some v=>fV v fun v=>K v H
  | none=>false)=true) (hc:∀ c,op≠.call c):∃ v H',K v H'=true/\A89 E F H v H' (fun f w R=>vOp M.P M.L T op f w R):=by
 split at h
 ·rename_i v hv;exact B6H hM hv h hc
 ·cases h
theorem B6I {cs:List (Nat × Nat)} {vs:List Value} (h:All2 (PR σ) cs vs):All2 (VR σ) (cs.map fun c=>EV.o (.p c.1 c.2)) vs:=by
 induction cs generalizing vs with
 | nil=>cases vs with
  | nil=>trivial
  | cons v vs=>exact h.elim
 | cons c cs ih=>cases vs with
  | nil=>exact h.elim
  | cons v vs=>exact⟨h.1,ih h.2⟩
theorem B33 (σ:Sg) (z:List Value) (n:Nat):All2 (BR σ) ((P2 z n).map EB.l) (P2 z n):=V9 σ _
theorem B34 {esz n:Nat} {z ds:List Value} {l:List (Nat × Value)} (hz:z.length=esz) (h:X2 esz (P2 z n) l=some ds):A4Z esz n z l=some ds:=by
 cases hB:A4Z esz n z l with
 | some cs=>rw [A9T hz hB] at h;exact h
 | none=>
  unfold A4Z at hB;cases hb:Nat.beq l.length n with
  | false=>rw [hb,cond_false,h] at hB;cases hB
  | true=>
   rw [hb,cond_true] at hB;cases hf:A4Y esz 0 l with
   | none=>rw [hf] at hB;replace hB:X2 esz (P2 z n) l=none:=hB;rw [h] at hB;cases hB
   | some cs=>rw [hf] at hB;cases hB
theorem B35 {d:TD} (h:d≠.none):d.zero.length=d.size:=by cases d<;>first | rfl | exact absurd rfl h
theorem A70 {P:Program} {L:Lay} {T:Nat} {b:Builtin} {args:Array Operand} {ats:Array Nat} {R:Value->World->Prop} (h:∀ cs:Array Bool,cond (L6 b)
   (A0u P L b ats T cs (args.toList.map (ev f)) fun v=>R v w)
   (∃ v w',(builtin b ats T cs (args.toList.map (ev f)).toArray).run P w=.ok (.value v) w'/\R v w')):vOp P L T (.call ⟨.builtin b,args,ats⟩) f w R:=by
 simp only [vOp,U3];exact h _
theorem B36 {P:Program} {L:Lay} {T n:Nat} {fo:Operand} {args:Array Operand} {ats:Array Nat} {vs:List Value} {R:Value->World->Prop} (e:ev f fo=.func (.func n) #[] vs.toArray) (h:X3 P L n ((args.toList.map (ev f))++vs) w R):vOp P L T (.call ⟨.value fo,args,ats⟩) f w R:=by
 show (match ev f fo with
  | .func (.func n) first captured=>A9K f args.toList fun xs=>match first.toList,captured.toList with
   | [],[]=>X3 P L n xs w R
   | fs,cs=>X3 P L n (fs++xs++cs) w R
  | _=>False)
 rw [e];dsimp only;rw [U3];cases vs with
 | nil=>rw [zw] at h;exact h
 | cons v vs=>exact h
theorem A9G (hM:MachOk M E) {call:Nat->List EV->Hp->Kt->Bool} (hC:A09 M E call) {nm:Option Nat} {T:Nat} {c:Go.Call} (h:xO M call nm T (.call c) F H K=true):∃ v H',K v H'=true/\A89 E F H v H' (fun f w R=>vOp M.P M.L T (.call c) f w R):=by
 replace h:(match B6V F c.args.toList with
  | some xs=>match c.callee with
   | .builtin b=>cond (L6 b) (match A2Y M.L b c.argTypes.toList xs with
    | some v=>fV v fun v=>K v H
    | none=>false) (xBu M b c.argTypes.toList xs H K)
   | .value fo=>match xEv F fo with
    | some (.o (.f g cs))=>call g (xs++cs.map fun c=>.o (.p c.1 c.2)) H fun v H=>K v H
    | _=>false
   | .invoke ..=>false
  | none=>false)=true:=h
 obtain⟨callee,args,ats⟩:=c;split at h
 ·rename_i xs hx;cases callee with
  | builtin b=>
   replace h:cond (L6 b) (match A2Y M.L b ats.toList xs with
    | some v=>fV v fun v=>K v H
    | none=>false) (xBu M b ats.toList xs H K)=true:=h
   cases hb:L6 b with
   | true=>
    rw [hb,cond_true] at h;split at h
    ·rename_i v hv;rw [A1J] at h;refine⟨_,_,h,fun w0 σ f w hE hF hR R hK=>?_⟩;refine A70 fun cs=>?_;have:=A5i (P:=M.P) (T:=T) (K:=fun u=>R u w) (cs:=cs) hv (A2Z hF hx) fun u hu=>hK σ u w (Ex.refl _) hu hR;rw [hb] at this ⊢;exact this
    ·cases h
   | false=>
    rw [hb,cond_false] at h;obtain⟨v,H',h1,h2⟩:=B7Z hM h;refine⟨v,H',h1,fun w0 σ f w hE hF hR R hK=>?_⟩;refine A70 fun cs=>?_;obtain⟨u,w',r1,τ,r2,r3,r4⟩:=h2 w0 σ w _ T cs hR (A2Z hF hx);rw [hb];exact⟨u,w',r1,hK _ _ _ r2 r3 r4⟩
  | value fo=>
   replace h:(match xEv F fo with
    | some (.o (.f g cs))=>call g (xs++cs.map fun c=>.o (.p c.1 c.2)) H fun v H=>K v H
    | _=>false)=true:=h
   split at h
   ·rename_i g cs hg;obtain⟨v,H',h1,h2⟩:=hC _ _ _ _ h;refine⟨v,H',h1,fun w0 σ f w hE hF hR R hK=>?_⟩;obtain⟨vs,k1,k2⟩:=B9 hF hg;have hargs:All2 (VR σ) (xs++cs.map fun c=>EV.o (.p c.1 c.2)) ((args.toList.map (ev f))++vs):=All2.append (A2Z hF hx) (B6I k1);exact B36 k2 (h2 w0 σ w _ hE hR hargs R hK)
   ·cases h
  | invoke=>cases h
 ·cases h
theorem B8W (hM:MachOk M E) {call:Nat->List EV->Hp->Kt->Bool} (hC:A09 M E call) {nm:Option Nat} {T:Nat} {op:Op} (h:xO M call nm T op F H K=true):∃ v H',K v H'=true/\A89 E F H v H' (fun f w R=>vOp M.P M.L T op f w R):=by
 cases op
 case call c=>exact A9G hM hC h
 case load t x=>
  replace h:(match xEv F x with
   | some v=>match A6f M t v H with
    | some u=>fV u fun u=>K u H
    | none=>false
   | none=>false)=true:=h
  split at h
  ·rename_i v hv;split at h
   ·rename_i u hu;rw [A1J] at h;exact⟨_,_,h,fun w0 σ f w hE hF hR R hK=>B3p hu hF hv hR fun u hu=>hK σ u w (Ex.refl _) hu hR⟩
   ·cases h
  ·cases h
 case store t x y=>
  replace h:(match xEv F x,xEv F y with
   | some v,some u=>A7q M t v u H K
   | _,_=>false)=true:=h
  split at h
  ·rename_i v u hv hu;exact B1n h hv hu
  ·cases h
 case alloc t=>
  replace h:(match M.L.ty t with
   | .none=>false
   | d=>A4E nm t 0 (d.zero.map .l) H fun N H=>K (.o (.p N 0)) H)=true:=h
  have key:∀ d,M.L.ty t=d->d≠.none->A4E nm t 0 (d.zero.map .l) H (fun N H=>K (.o (.p N 0)) H)=true->∃ v H',K v H'=true/\A89 E F H v H' (fun f w R=>vOp M.P M.L T (.alloc t) f w R):=fun d hd hn h=>by
   obtain⟨v,H',h1,h2⟩:=A1U (mkV:=fun g=>.pointer (some ⟨g,0,none⟩)) h B4i;refine⟨v,H',h1,fun w0 σ f w hE hF hR R hK=>?_⟩;have:=h2 w0 σ w _ hR (V9 σ _) R hK;show (match M.L.ty t with
    | .none=>False
    | d=>∀ g w',New w d.zero t g w'->R (.pointer (some ⟨g,0,none⟩)) w')
   rw [hd];cases d with
   | none=>exact absurd rfl hn
   | _=>exact this
  cases hd:M.L.ty t with
  | none=>rw [hd] at h;cases h
  | _=>rw [hd] at h;exact key _ hd (fun e=>by cases e) h
 case box t x=>
  replace h:(match xEv F x with
   | some v=>match A3I v with
    | some ys=>A4E nm t 0 ys H fun N H=>K (.o (.p N 0)) H
    | none=>false
   | none=>false)=true:=h
  split at h
  ·rename_i v hv;split at h
   ·rename_i ys hy;obtain⟨v',H',h1,h2⟩:=A1U (mkV:=fun g=>.pointer (some ⟨g,0,none⟩)) h B4i;refine⟨v',H',h1,fun w0 σ f w hE hF hR R hK=>?_⟩;show A2u (ev f x) fun cs=>∀ g w',New w cs t g w'->R (.pointer (some ⟨g,0,none⟩)) w';rw [A1Z];exact h2 w0 σ w _ hR (A2W hy (B9 hF hv)) R hK
   ·cases h
  ·cases h
 case buildSlice t n ps=>
  replace h:(match elemOf (M.L.ty t) with
   | some (e,esz)=>cond (Nat.beq n 0&&A1X ps.toList) (A4E nm e 0 [] H fun N H=>K (.o (.s N 0 0 (.k 0))) H)
    (cond (Nat.ble (Nat.mul n esz) 16777216&&!Nat.beq esz 0&&!Nat.beq n 0&&Nat.beq (M.L.ty e).size esz) (match xPs F ps.toList,M.L.ty e with
     | some l,.none=>false
     | some l,d=>match A3J esz l (P2 d.zero n |>.map .l) with
      | some cs=>A4E nm e 0 cs H fun N H=>K (.o (.s N 0 n (.k n))) H
      | none=>false
     | none,_=>false) false)
   | none=>false)=true:=h
  split at h
  ·rename_i e esz he;have ht:=A5s he;cases hb:(Nat.beq n 0&&A1X ps.toList) with
   | true=>
    rw [hb,cond_true] at h;obtain⟨v',H',h1,h2⟩:=A1U (mkV:=fun g=>.slice (some ⟨g,0,none⟩) 0 0) h (B7W 0);refine⟨v',H',h1,fun w0 σ f w hE hF hR R hK=>?_⟩;simp only [vOp];rw [ht];dsimp only;rw [hb,cond_true];exact h2 w0 σ w [] hR trivial R hK
   | false=>
    rw [hb,cond_false] at h;obtain⟨h1,h2⟩:=B6 h;rw [z7] at h1;obtain⟨h0,h1⟩:=h1;have hn1:n≠0:=fun e=>by rw [e] at h0;rw [z7] at h0;cases h0.2
    split at h2
    ·cases h2
    ·rename_i l d hl hd;split at h2
     ·rename_i cs hcs;obtain⟨v',H',k1,k2⟩:=A1U (mkV:=fun g=>.slice (some ⟨g,0,none⟩) n n) h2 (B7W n);refine⟨v',H',k1,fun w0 σ f w hE hF hR R hK=>?_⟩;simp only [vOp,A0Y];rw [ht];dsimp only;rw [hb,cond_false];have h0':(Nat.ble (n*esz) 16777216&&!Nat.beq esz 0&&!Nat.beq n 0)=true:=h0;rw [h0',cond_true];obtain⟨ds,r1,r2⟩:=A2X (σ:=σ) hcs (B1Z hF hl) (B33 σ _ n);have key:cond (Nat.beq (M.L.ty e).size esz) (match A4Z esz n (M.L.ty e).zero (ps.toList.map fun p=>(p.1,ev f p.2)) with
       | some cs=>∀ g w',New w cs e g w'->R (.slice (some ⟨g,0,none⟩) n n) w'
       | none=>False) False:=by
       rw [h1,cond_true,B34 ((B35 hd).trans (z8 h1)) r1];exact k2 w0 σ w ds hR r2 R hK
      revert key;generalize M.L.ty e=d at hd;intro key;cases d with
      | none=>exact absurd rfl hd
      | _=>exact key
     ·cases h2
    ·cases h2
  ·cases h
 case convert s d x=>
  replace h:cond (B1i M.L s d) (match xP M.P M.L M.Q T (.convert s d x) F with
   | some v=>fV v fun v=>K v H
   | none=>false) (match xEv F x with
   | some v=>B3g M nm s d v H K
   | none=>false)=true:=h
  cases he:B1i M.L s d with
  | true=>rw [he,cond_true] at h;exact B8V hM h (fun c e=>by cases e)
  | false=>
   rw [he,cond_false] at h;split at h
   ·rename_i v hv;obtain⟨v',H',h1,h2⟩:=B3w h;refine⟨v',H',h1,fun w0 σ f w hE hF hR R hK=>?_⟩;obtain⟨u,w',r1,τ,r2,r3,r4⟩:=h2 w0 σ w _ hR (B9 hF hv);have hr:Runs M.P (Go.convert s d (ev f x)) w R:=⟨u,w',r1,hK τ u w' r2 r3 r4⟩;show (match M.L.ty s,M.L.ty d,ev f x with
     | .int _,.int k',.int _ n=>R (.int k' (k'.wrap n)) w
     | .str,.str,.string s=>R (.string s) w
     | _,_,x=>Runs M.P (Go.convert s d x) w R)
    unfold B1i at he;revert hr;generalize M.L.ty s=ds at he;generalize M.L.ty d=dd at he;generalize ev f x=u;intro hr;cases ds with
    | int k=>cases dd with
     | int k'=>cases he
     | _=>exact hr
    | str=>cases dd with
     | str=>cases he
     | _=>exact hr
    | _=>exact hr
   ·cases h
 case makeSlice t l c=>
  replace h:(match xEv F l,xEv F c with
   | some l,some c=>B3h M nm t l c H K
   | _,_=>false)=true:=h
  split at h
  ·rename_i l' c' hl hc;obtain⟨v',H',h1,h2⟩:=B31 hM h;refine⟨v',H',h1,fun w0 σ f w hE hF hR R hK=>?_⟩;obtain⟨u,w',r1,τ,r2,r3,r4⟩:=h2 w0 σ w _ _ hR (B9 hF hl) (B9 hF hc);exact⟨u,w',r1,hK τ u w' r2 r3 r4⟩
  ·cases h
 case makeMap t r=>
  cases r with
  | none=>
   obtain⟨v',H',h1,h2⟩:=A6i (P:=M.P) (t:=t) (show B4d nm (.m [] 0) H (fun N H=>K (.o (.m N)) H)=true from h);refine⟨v',H',h1,fun w0 σ f w hE hF hR R hK=>?_⟩;obtain⟨u,w',r1,τ,r2,r3,r4⟩:=h2 w0 σ w hR;exact⟨u,w',r1,hK τ u w' r2 r3 r4⟩
  | some r=>exact B8V hM h (fun c e=>by cases e)
 case lookup t x y ok=>
  replace h:(match xEv F x,xEv F y with
   | some m,some k=>A4F M t m k ok H K
   | _,_=>false)=true:=h
  split at h
  ·rename_i m k hm hk;obtain⟨v',H',h1,h2⟩:=A9B hM h;refine⟨v',H',h1,fun w0 σ f w hE hF hR R hK=>?_⟩;obtain⟨u,w',r1,τ,r2,r3,r4⟩:=h2 w0 σ w _ _ hR (B9 hF hm) (B9 hF hk);exact⟨u,w',r1,hK τ u w' r2 r3 r4⟩
  ·cases h
 case mapUpdate t x y z=>
  replace h:(match xEv F x,xEv F y,xEv F z with
   | some m,some k,some v=>A4G M t m k v H K
   | _,_,_=>false)=true:=h
  split at h
  ·rename_i m k v hm hk hv;obtain⟨H',h1,h2⟩:=A9D h;refine⟨_,H',h1,fun w0 σ f w hE hF hR R hK=>?_⟩;obtain⟨w',r1,r2⟩:=h2 w0 σ w _ _ _ hR (B9 hF hm) (B9 hF hk) (B9 hF hv);exact⟨w',r1,hK σ _ w' (Ex.refl _) rfl r2⟩
  ·cases h
 case range t x=>
  replace h:(match xEv F x with
   | some m=>A7r M nm t m H K
   | none=>false)=true:=h
  split at h
  ·rename_i m hm;obtain⟨v',H',h1,h2⟩:=B1s h;refine⟨v',H',h1,fun w0 σ f w hE hF hR R hK=>?_⟩;obtain⟨u,w',r1,τ,r2,r3,r4⟩:=h2 w0 σ w _ hR (B9 hF hm);exact⟨u,w',r1,hK τ u w' r2 r3 r4⟩
  ·cases h
 case next x s=>
  replace h:(match xEv F x with
   | some it=>B3d it s H K
   | none=>false)=true:=h
  split at h
  ·rename_i m hm;obtain⟨v',H',h1,h2⟩:=B3u (P:=M.P) (T:=T) h;refine⟨v',H',h1,fun w0 σ f w hE hF hR R hK=>?_⟩;obtain⟨u,w',r1,τ,r2,r3,r4⟩:=h2 w0 σ w _ hR (B9 hF hm);exact⟨u,w',r1,hK τ u w' r2 r3 r4⟩
  ·cases h
 case entry x=>
  replace h:(match xEv F x with
   | some it=>A7s it H K
   | none=>false)=true:=h
  split at h
  ·rename_i m hm;obtain⟨v',H',h1,h2⟩:=B1t (P:=M.P) h;refine⟨v',H',h1,fun w0 σ f w hE hF hR R hK=>?_⟩;obtain⟨u,w',r1,τ,r2,r3,r4⟩:=h2 w0 σ w _ hR (B9 hF hm);exact⟨u,w',r1,hK τ u w' r2 r3 r4⟩
  ·cases h
 all_goals exact B8V hM h (fun c e=>by cases e)
end
end Go.Vx
end
section
namespace Go.Vx
open Go Go.Vc Go.RowKit
section
variable {M:Mach} {E:World->Prop} {F:Tr EV} {H:Hp} {σ:Sg} {w0 w:World} {f:Fr} {call:Nat->List EV->Hp->Kt->Bool}
theorem A4P {d:Option Nat} {v:EV} {K:Tr EV->Bool} (h:B6D F d v K=true):∃ F',K F'=true/\∀ σ f u,FR σ F f->VR σ v u->FR σ F' (B6P f d u):=by
 cases d with
 | none=>exact⟨F,h,fun σ f u hF _=>hF⟩
 | some t=>
  obtain⟨F',h1,h2⟩:=Tr.setK_ok _ _ _ _ (show F.setK t v K=true from h);exact⟨F',h1,fun σ f u hF hu=>hF.upd hu h2⟩
theorem FR.same {t:Nat} {v:Value} (hF:FR σ F f) (e:f t=v):FR σ F (Go.Vc.upd f t v):=fun j x hx=>by
 show VR σ x (bif Nat.beq j t then v else f j);cases hb:Nat.beq j t with
 | false=>exact hF j x hx
 | true=>
  have:=z8 hb;subst this;have:=hF j x hx;rw [e] at this;exact this
theorem A2f {ops:List Oper} {j:Nat} {want r:Bool} (h:A3K ops F (some (j,want))=some r) (hF:FR σ F f):(G3 ops f j=none/\r=false)\/∃ t b,G3 ops f j=some (t,b)/\f t=.bool b/\r=(b==want):=by
 replace h:(match ops[j]? with
  | some o=>match o.dst with
   | some t=>match F.get t with
    | some (.o (.l (.bool b)))=>some (b==want)
    | some (.o (.l (.tuple _)))=>some false
    | _=>none
   | none=>some false
  | none=>some false)=some r:=h
 unfold G3;cases ho:ops[j]? with
 | none=>rw [ho] at h;cases h;exact .inl ⟨rfl,rfl⟩
 | some o=>
  rw [ho] at h;dsimp only at h ⊢;cases hd:o.dst with
  | none=>rw [hd] at h;cases h;exact .inl ⟨rfl,rfl⟩
  | some t=>
   rw [hd] at h;dsimp only at h ⊢;split at h
   ·rename_i b hb;cases h;have e:f t=.bool b:=hF t _ hb;exact .inr ⟨t,b,by rw [e],e,rfl⟩
   ·rename_i vs hb;cases h;have e:f t=.tuple vs:=hF t _ hb;exact .inl ⟨by rw [e],rfl⟩
   ·cases h
theorem A3M {ops:List Oper} {o:Oper} {yes:Nat->Op->Fr->Option Nat->Prop} {no:Fr->Prop} (h:A3K ops F o.guard=some true) (hF:FR σ F f) (hy:∀ f',FR σ F f'->yes o.type o.op f' o.dst):gOp ops o f yes no:=by
 obtain⟨dst,op,T,pos,after,g⟩:=o;cases g with
 | none=>exact hy f hF
 | some g=>
  obtain⟨j,want⟩:=g;show (match G3 ops f j with
   | some (t,b)=>Bool.rec (motive:=fun _=>Prop)
     (cond want (N6 (upd f t (.bool false)) dst undef no) (yes T op (upd f t (.bool false)) dst))
     (cond want (yes T op (upd f t (.bool true)) dst) (N6 (upd f t (.bool true)) dst undef no)) b
   | none=>N6 f dst undef no)
  rcases A2f h hF with ⟨h1,h2⟩ | ⟨t,b,h1,h2,h3⟩
  ·cases h2
  ·rw [h1];have hs:=hF.same h2;cases b<;>cases want<;>first | (cases h3;done) | exact hy _ hs
theorem A5x {ops:List Oper} {o:Oper} {yes:Nat->Op->Fr->Option Nat->Prop} {no:Fr->Prop} (h:A3K ops F o.guard=some false) (hF:FR σ F f) (hn:∀ f',FR σ F f'->no (B6P f' o.dst undef)):gOp ops o f yes no:=by
 obtain⟨dst,op,T,pos,after,g⟩:=o;cases g with
 | none=>cases h
 | some g=>
  obtain⟨j,want⟩:=g;show (match G3 ops f j with
   | some (t,b)=>Bool.rec (motive:=fun _=>Prop)
     (cond want (N6 (upd f t (.bool false)) dst undef no) (yes T op (upd f t (.bool false)) dst))
     (cond want (yes T op (upd f t (.bool true)) dst) (N6 (upd f t (.bool true)) dst undef no)) b
   | none=>N6 f dst undef no)
  rcases A2f h hF with ⟨h1,h2⟩ | ⟨t,b,h1,h2,h3⟩
  ·rw [h1];show N6 f dst undef no;rw [H4];exact hn f hF
  ·rw [h1];have hs:=hn _ (hF.same h2);cases b<;>cases want<;>first | (cases h3;done) | (show N6 _ dst undef no;rw [H4];exact hs)
theorem A71 (σ:Sg):VR σ (lit undef) undef:=rfl
theorem A4Q (hM:MachOk M E) (hC:A09 M E call) {nm:Option Nat} {ops:List Oper} {o:Oper} {K:Tr EV->Hp->Bool} (h:A5q M call nm ops o F H K=true):∃ F' H',K F' H'=true/\∀ w0 σ f w,E w0->FR σ F f->Rep w0 σ H w->∀ (Y:Fr->Option Nat->Value->World->Prop) (N:Fr->Prop),
  (∀ τ f0 u w',Ex σ τ->Rep w0 τ H' w'->FR τ F' (B6P f0 o.dst u)->Y f0 o.dst u w')->(∀ f',Rep w0 σ H' w->FR σ F' f'->N f')->gOp ops o f (fun T op f dst=>vOp M.P M.L T op f w (Y f dst)) N:=by
 unfold A5q at h;split at h
 ·rename_i hg;obtain⟨v,H',h1,h2⟩:=B8W hM hC h;obtain⟨F',h3,h4⟩:=A4P h1;refine⟨F',H',h3,fun w0 σ f w hE hF hR Y N hY hN=>A3M hg hF fun f' hF'=>h2 w0 σ f' w hE hF' hR _ fun τ u w' hx hu hR'=>hY τ f' u w' hx hR' (h4 τ f' u (hF'.ex hx) hu)⟩
 ·rename_i hg;obtain⟨F',h3,h4⟩:=A4P h;exact⟨F',H,h3,fun w0 σ f w hE hF hR Y N hY hN=>A5x hg hF fun f' hF'=>hN _ hR (h4 σ f' undef hF' (A71 σ))⟩
 ·cases h
theorem B1v {P:Program} {L:Lay} {ops0 l:List Oper} {o:Oper} {K:Fr->World->Prop}:A4a P L ops0 (o::l) f w K=gOp ops0 o f (fun T op f dst=>vOp P L T op f w fun v w'=>N6 f dst v fun f'=>A4a P L ops0 l f' w' K) (fun f'=>A4a P L ops0 l f' w K):=by obtain⟨dst,op,T,pos,after,g⟩:=o;cases g<;>rfl
def B7a (E:World->Prop) (F:Tr EV) (H:Hp) (F':Tr EV) (H':Hp) (X:Fr->World->(Fr->World->Prop)->Prop):Prop:=
 ∀ w0 σ f w,E w0->FR σ F f->Rep w0 σ H w->∀ R,(∀ τ f' w',Ex σ τ->FR τ F' f'->Rep w0 τ H' w'->R f' w')->X f w R
theorem B1w (hM:MachOk M E) (hC:A09 M E call) {ops:List Oper}:∀ (l:List Oper) (F:Tr EV) (H:Hp) (K:Tr EV->Hp->Bool),B8S M call ops l F H K=true->∃ F' H',K F' H'=true/\B7a E F H F' H' (fun f w R=>A4a M.P M.L ops l f w R)
 | [],F,H,K,h=>⟨F,H,h,fun w0 σ f w hE hF hR R hK=>hK σ f w (Ex.refl _) hF hR⟩
 | o::l,F,H,K,h=>by obtain⟨F1,H1,h1,h2⟩:=A4Q hM hC (show A5q M call none ops o F H (fun F H=>B8S M call ops l F H K)=true from h);obtain⟨F',H',h3,h4⟩:=B1w hM hC l F1 H1 K h1;refine⟨F',H',h3,fun w0 σ f w hE hF hR R hK=>?_⟩;show A4a M.P M.L ops (o::l) f w R;rw [B1v];refine h2 w0 σ f w hE hF hR (fun f dst v w'=>N6 f dst v fun f'=>A4a M.P M.L ops l f' w' R) _ (fun τ f0 u w' hx hR' hF'=>?_) (fun f' hR' hF'=>h4 w0 σ f' w hE hF' hR' R hK);rw [H4];exact h4 w0 τ _ w' hE hF' hR' R fun υ f' w'' hx'=>hK υ f' w'' (hx.trans hx')
end
end Go.Vx
end
section
namespace Go.Vx
open Go Go.Vc Go.RowKit
theorem P0 {α:Type} {R:α->α->Bool} (hR:∀ x y,R x y=true->x=y):∀ a b:List α,B1l R a b=true->a=b
 | [],b,h=>by cases b with
  | nil=>rfl
  | cons y r=>cases h
 | x::a,b,h=>by cases b with
  | nil=>cases h
  | cons y r=>
   obtain⟨h1,h2⟩:=Bool.and_eq_true_iff.1 (show (R x y&&B1l R a r)=true from h);rw [hR _ _ h1,P0 hR a r h2]
theorem B1x {a b:Value} (h:B70 a b=true):a=b:=by
 unfold B70 at h;split at h
 ·rename_i k x k' y;obtain⟨h1,h2⟩:=Bool.and_eq_true_iff.1 h;rw [intSame_eq h1,eqI_iff h2]
 ·rename_i s t;rw [A2V] at h;have:=eq_of_beq h;rw [<-A1S s,<-A1S t,this]
 ·rename_i x y;rw [eq_of_beq h]
 ·rfl
 ·rename_i n c n' c';obtain⟨h1,h2⟩:=Bool.and_eq_true_iff.1 h;rw [z8 h1,z8 h2]
 ·rfl
 ·rfl
 ·rfl
 ·obtain⟨h1,h2⟩:=Bool.and_eq_true_iff.1 h;rw [z8 h1,z8 h2]
 ·rw [z8 h]
 ·rename_i a b;obtain⟨h1,h2⟩:=Bool.and_eq_true_iff.1 h;have e:∀ a:Array Value,A1X a.toList=true->a=#[]:=fun a h=>by
   obtain⟨l⟩:=a;cases l with
   | nil=>rfl
   | cons x r=>cases h
  rw [e a h1,e b h2]
 ·cases h
theorem B7b {a b:EC} (h:eqC a b=true):a=b:=by
 unfold eqC at h;split at h
 ·rw [z8 h]
 ·obtain⟨h1,h2⟩:=Bool.and_eq_true_iff.1 h;rw [z8 h1,z8 h2]
 ·rw [z8 h]
 ·cases h
theorem A3N (a b:EB) (h:eqE a b=true):a=b:=by
 unfold eqE at h;split at h
 ·rw [B1x h]
 ·obtain⟨h1,h2⟩:=Bool.and_eq_true_iff.1 h;rw [z8 h1,z8 h2]
 ·simp only [z7] at h;obtain⟨⟨⟨h1,h2⟩,h3⟩,h4⟩:=h;rw [z8 h1,z8 h2,z8 h3,B7b h4]
 ·rw [z8 h]
 ·obtain⟨h1,h2⟩:=Bool.and_eq_true_iff.1 h;rw [z8 h1,P0 (fun x y h=>by obtain⟨h1,h2⟩:=Bool.and_eq_true_iff.1 h;exact Prod.ext (z8 h1) (z8 h2)) _ _ h2]
 ·simp only [z7] at h;obtain⟨⟨h1,h2⟩,h3⟩:=h;rw [intSame_eq h1,eqI_iff h2,eqI_iff h3]
 ·rfl
 ·cases h
theorem B4j (a b:EV) (h:eqX a b=true):a=b:=by
 unfold eqX at h;split at h
 ·rw [A3N _ _ h]
 ·rw [P0 A3N _ _ h]
 ·rw [P0 (fun x y h=>by obtain⟨h1,h2⟩:=Bool.and_eq_true_iff.1 h;exact Prod.ext (eq_of_beq h1) (P0 A3N _ _ h2)) _ _ h]
 ·cases h
theorem A72 {α:Type} {R:α->α->Bool} (hR:∀ x y,R x y=true->x=y):∀ a b:Tr α,eqT R a b=true->a=b
 | .e,b,h=>by cases b with
  | e=>rfl
  | n v l r=>cases h
 | .n v l r,b,h=>by cases b with
  | e=>cases h
  | n v' l' r'=>
   replace h:(eqO R v v'&&eqT R l l'&&eqT R r r')=true:=h;simp only [z7] at h;obtain⟨⟨h1,h2⟩,h3⟩:=h;rw [A72 hR l l' h2,A72 hR r r' h3];unfold eqO at h1;split at h1
   ·rfl
   ·rw [hR _ _ h1]
   ·cases h1
theorem B37 (a b:Ent) (h:B1m a b=true):a=b:=by
 unfold B1m at h;split at h
 ·rfl
 ·simp only [z7] at h;obtain⟨⟨h1,h2⟩,h3⟩:=h;rw [z8 h1,z8 h2,P0 A3N _ _ h3]
 ·obtain⟨h1,h2⟩:=Bool.and_eq_true_iff.1 h;rw [z8 h2,P0 (fun x y h=>by simp only [z7] at h;obtain⟨⟨h1,h2⟩,h3⟩:=h;exact Prod.ext (B1x h1) (Prod.ext (B4j _ _ h2) (z8 h3))) _ _ h1]
 ·simp only [z7] at h;obtain⟨⟨⟨h1,h2⟩,h3⟩,h4⟩:=h;rw [z8 h1,z8 h2,P0 (fun x y h=>z8 h) _ _ h3,z8 h4]
 ·rw [P0 A3N _ _ h]
 ·cases h
section
variable {σ:Sg}
theorem B1y:∀ {cs:List (Nat × Nat)} {us vs:List Value},All2 (PR σ) cs us->All2 (PR σ) cs vs->us=vs
 | [],[],[],_,_=>rfl
 | c::cs,u::us,v::vs,h,k=>by obtain⟨q,h1,h2⟩:=h.1;obtain⟨q',k1,k2⟩:=k.1;rw [h1] at k1;cases k1;rw [h2,k2,B1y h.2 k.2]
theorem B38 {x:EB} {u v:Value} (h:B6E x=true) (h1:BR σ x u) (h2:BR σ x v):u=v:=by
 cases x with
 | l a=>exact h1.trans h2.symm
 | p N o=>
  obtain⟨q,a1,a2⟩:=h1;obtain⟨q',b1,b2⟩:=h2;rw [a1] at b1;cases b1;rw [a2,b2]
 | s N o n c=>
  obtain⟨q,a,cp,a1,a2,a3⟩:=h1;obtain⟨q',b,cp',b1,b2,b3⟩:=h2;rw [a1] at b1;cases b1;cases c with
  | k c=>rw [a3,b3,a2.1,b2.1,a2.2.1,b2.2.1]
  | j d b=>
   have e1:cp=cp':=by have h3:=a2.2.1;have h4:=b2.2.1;omega
   rw [a3,b3,a2.1,b2.1,e1]
  | z d=>cases h
 | m N=>
  obtain⟨q,a1,a2⟩:=h1;obtain⟨q',b1,b2⟩:=h2;rw [a1] at b1;cases b1;rw [a2,b2]
 | f g cs=>
  obtain⟨us,a1,a2⟩:=h1;obtain⟨vs,b1,b2⟩:=h2;rw [a2,b2,B1y a1 b1]
 | rg k lo hi=>cases h
 | bo=>cases h
theorem A2g:∀ {xs:List EB} {us vs:List Value},A87 xs=true->All2 (BR σ) xs us->All2 (BR σ) xs vs->us=vs
 | [],[],[],_,_,_=>rfl
 | x::xs,u::us,v::vs,h,h1,h2=>by obtain⟨k1,k2⟩:=Bool.and_eq_true_iff.1 (show (B6E x&&A87 xs)=true from h);rw [B38 k1 h1.1 h2.1,A2g k2 h1.2 h2.2]
end
abbrev Lk:=Nat × Nat × List EB
def B7c (σ:Sg) (lk:Lk) (z:World):Prop:=∃ q cs,σ lk.1=some q/\All2 (BR σ) lk.2.2 cs/\cellsAt z ⟨q.b,q.o+lk.2.1,none⟩ cs 0
def Cls (σ:Sg) (lks:List Lk) (z:World):Prop:=∀ lk∈lks,B7c σ lk z
section
variable {M:Mach} {E:World->Prop} {T:Nat} {F:Tr EV} {H H0:Hp} {σ σ0 τ:Sg} {w0 w:World} {f:Fr} {call:Nat->List EV->Hp->Kt->Bool}
def At (H:Hp) (lk:Lk):Prop:=∃ xs,rowR H lk.1=some xs/\(xs.drop lk.2.1).take lk.2.2.length=lk.2.2/\A87 lk.2.2=true
theorem A5y {lk:Lk} (h:A5r H lk=true):At H lk:=by
 unfold A5r at h;split at h
 ·rename_i xs hr;obtain⟨h1,h2⟩:=Bool.and_eq_true_iff.1 h;exact⟨xs,hr,P0 A3N _ _ h1,h2⟩
 ·cases h
theorem B71 (hR:Rep w0 σ H w) {lk:Lk} (h:At H lk):B7c σ lk w:=by
 obtain⟨N,o,ys⟩:=lk;obtain⟨xs,hr,e,_⟩:=h;by_cases hl:o+ys.length<=xs.length
 ·obtain⟨q,cs,k1,k2,k3,k4⟩:=hR.rowR hr o ys.length hl;rw [show (xs.drop o).take ys.length=ys from e] at k2;exact⟨q,cs,k1,k2,k4⟩
 ·have:ys=[]:=by have h3:=y5 List.length e;rw [zf,zg] at h3;apply zn;show ys.length=0;replace h3:min ys.length (xs.length-o)=ys.length:=h3;omega
  subst this;obtain⟨q,h3⟩:=hR.placeR hr;exact⟨q,[],h3,trivial,trivial⟩
theorem B6J (hx:Ex σ τ) {lk:Lk} (h0:B7c σ lk w0) (hs:A87 lk.2.2=true) (h:B7c τ lk w):B7c σ lk w:=by obtain⟨q,cs,h1,h2,h3⟩:=h0;obtain⟨r,ds,k1,k2,k3⟩:=h;rw [hx _ _ h1] at k1;cases k1;have:=A2g hs (h2.mono (BR.ex hx)) k2;subst this;exact⟨q,cs,h1,h2,k3⟩
structure AOk (H0:Hp) (A:Acc):Prop where
 at0:∀ lk∈A.lks,At H0 lk
 all:∀ lk∈A.lks,∀ h∈A.hs,At h lk
structure Acc.le (A B:Acc):Prop where
 lks:∀ lk∈A.lks,lk∈B.lks
 hs:∀ h∈A.hs,h∈B.hs
theorem Acc.le.trans {A B C:Acc} (h:A.le B) (k:B.le C):A.le C:=⟨fun x hx=>k.lks x (h.lks x hx),fun x hx=>k.hs x (h.hs x hx)⟩
theorem Acc.le.refl (A:Acc):A.le A:=⟨fun _ h=>h,fun _ h=>h⟩
theorem B7d {A:Acc} (hA:AOk H0 A) {ws:World} (h0:Rep w0 σ0 H0 ws) (hx:Ex σ0 σ) (hR:Rep w0 σ H w) (hH:H∈A.hs):Cls σ0 A.lks w:=fun lk hl=>
 B6J hx (B71 h0 (hA.at0 lk hl)) (by obtain⟨_,_,_,h⟩:=hA.at0 lk hl;exact h) (B71 hR (hA.all lk hl H hH))
theorem B39 {α:Type} (l:List α) (n:Nat):l.take (l.take n).length=l.take n:=by
 rw [zf];by_cases h:n<=l.length
 ·rw [Nat.min_eq_left h]
 ·rw [Nat.min_eq_right (by omega),List.take_length,List.take_of_length_le (by omega)]
theorem B4A {t:Nat} {v:EV} {A:Acc} {K:EV->Acc->Bool} (h:B3n M t v H0 A K=true) (hA:AOk H0 A):∃ u A',K u A'=true/\A.le A'/\AOk H0 A'/\∀ w0 σ0 ws,Rep w0 σ0 H0 ws->∀ C:World->Prop,(∀ z,C z->Cls σ0 A'.lks z)->∀ σ f,Ex σ0 σ->FR σ F f->∀ x,xEv F x=some v->∀ R:Value->Prop,(∀ u',VR σ u u'->R u')->Go.Vc.qOp M.P M.L C T (.load t x) f R:=by
 unfold B3n at h;split at h
 ·rename_i N o;split at h
  ·rename_i xs hr;split at h
   ·rename_i u hu;rw [X9] at h;obtain⟨h1,h2⟩:=B6 h;rw [A1J] at h2;obtain⟨h3,h4⟩:=Bool.and_eq_true_iff.1 h1;have hat:At H0 (N,o,(xs.drop o).take (M.L.ty t).size):=⟨_,hr,B39 _ _,h3⟩;refine⟨u,_,h2,⟨fun lk hl=>zt _ hl,fun h hh=>hh⟩,⟨fun lk hl=>?_,fun lk hl h hh=>?_⟩,fun w0 σ0 ws h0 C hC σ f hx hF x hv R hK=>?_⟩
    ·cases hl with
     | head=>exact hat
     | tail _ hl=>exact hA.at0 lk hl
    ·cases hl with
     | head=>exact A5y (A4L h4 h hh)
     | tail _ hl=>exact hA.all lk hl h hh
    ·obtain⟨r,hr',e⟩:=B9 hF hv;obtain⟨q,cs,k1,k2,k3⟩:=B71 h0 hat;have:σ N=some q:=hx _ _ k1;rw [show σ N=some r from hr'] at this;cases this;have hcl:∀ z,C z->cellsAt z ⟨r.b,r.o+o,none⟩ cs 0:=fun z hz=>by obtain⟨q',ds,m1,m2,m3⟩:=hC z hz _ (zu ..);rw [k1] at m1;cases m1;rw [A2g h3 k2 m2];exact m3
     replace hv:=e;have one:(match xs[o]? with
       | some x=>some (EV.o x)
       | none=>none)=some u->(M.L.ty t).size=1->∃ v,(∀ z,C z->z.cell? ⟨r.b,r.o+o,none⟩=some v)/\R v:=fun h hs=>by
      split at h
      ·rename_i y hy;cases h;have e9:(xs.drop o).take (M.L.ty t).size=[y]:=by
        rw [hs];have hlt:o<xs.length:=by
         rcases zl o xs.length with h | h
         ·exact h
         ·rw [List.getElem?_eq_none h] at hy;cases hy
        rw [List.drop_eq_getElem_cons hlt];rw [List.getElem?_eq_getElem hlt] at hy;cases hy;rfl
       replace k2:All2 (BR σ0) ((xs.drop o).take (M.L.ty t).size) cs:=k2;rw [e9] at k2;obtain⟨c,rfl,hc⟩:=k2.one;exact⟨c,fun z hz=>by have:=(hcl z hz).1;rwa [Addr.add_lit,Nat.add_zero] at this,hK _ (BR.ex hx _ _ hc)⟩
      ·cases h
     have agg:cond (Nat.ble (Nat.add o (M.L.ty t).size) xs.length) (some (EV.a ((xs.drop o).take (M.L.ty t).size))) none=some u->∃ cs:List Value,cs.length=(M.L.ty t).size/\(∀ z,C z->cellsAt z ⟨r.b,r.o+o,none⟩ cs 0)/\R (.agg cs.toArray):=fun h=>by obtain⟨m1,m2⟩:=B9W h;cases m2;have m3:=ze m1;refine⟨cs,?_,hcl,hK _ ⟨cs,k2.mono (BR.ex hx),rfl⟩⟩;rw [k2.len];show ((xs.drop o).take (M.L.ty t).size).length=_;rw [zf,zg];exact Nat.min_eq_left (Nat.le_sub_of_add_le (by rw [Nat.add_comm];exact m3))
     show (match M.L.ty t,ev f x with
      | .none,_=>False
      | .array _ _ _ z,.pointer (some a)=>∃ cs:List Value,cs.length=z.length/\(∀ w,C w->cellsAt w a cs 0)/\R (.agg cs.toArray)
      | .struct _ z,.pointer (some a)=>∃ cs:List Value,cs.length=z.length/\(∀ w,C w->cellsAt w a cs 0)/\R (.agg cs.toArray)
      | _,.pointer (some a)=>∃ v,(∀ w,C w->w.cell? a=some v)/\R v
      | _,_=>False)
     rw [e];clear h2 h4 hat k2 hcl h1;revert hu one agg;generalize M.L.ty t=d;intro hu one agg;cases d with
     | none=>cases hu
     | array n e' esz z=>exact agg hu
     | struct fs z=>exact agg hu
     | int k=>exact one hu rfl
     | str=>exact one hu rfl
     | bool=>exact one hu rfl
     | slice e' esz=>exact one hu rfl
     | one z=>exact one hu rfl
   ·cases h
  ·cases h
 ·cases h
end
end Go.Vx
end
section
namespace Go.Vx
open Go Go.Vc Go.RowKit
section
variable {M:Mach} {E:World->Prop} {T:Nat} {F:Tr EV} {H H0:Hp} {σ σ0 τ:Sg} {w0 w:World} {f:Fr} {call:Nat->List EV->Hp->Kt->Bool}
theorem B8X (hM:MachOk M E) {op:Op} {A:Acc} {K:EV->Acc->Bool} (h:xQ M H0 T op F A K=true) (hA:AOk H0 A):∃ u A',K u A'=true/\A.le A'/\AOk H0 A'/\∀ w0 σ0 ws,Rep w0 σ0 H0 ws->∀ C:World->Prop,(∀ z,C z->Cls σ0 A'.lks z)->∀ σ f,Ex σ0 σ->FR σ F f->∀ R:Value->Prop,(∀ u',VR σ u u'->R u')->Go.Vc.qOp M.P M.L C T op f R:=by
 have other:(match xP M.P M.L M.Q T op F with
   | some v=>fV v fun v=>K v A
   | none=>false)=true->(∀ t x,op≠.load t x)->∃ u A',K u A'=true/\A.le A'/\AOk H0 A'/\∀ w0 σ0 ws,Rep w0 σ0 H0 ws->∀ C:World->Prop,(∀ z,C z->Cls σ0 A'.lks z)->∀ σ f,Ex σ0 σ->FR σ F f->∀ R:Value->Prop,(∀ u',VR σ u u'->R u')->Go.Vc.qOp M.P M.L C T op f R:=fun h hn=>by
  split at h
  ·rename_i v hv;rw [A1J] at h;refine⟨v,A,h,Acc.le.refl A,hA,fun w0 σ0 ws h0 C hC σ f hx hF R hK=>?_⟩;have:=B7O hF hv hK;cases op
   case load t x=>exact absurd rfl (hn t x)
   all_goals exact this
  ·cases h
 cases op
 case load t x=>
  replace h:(match xEv F x with
   | some v=>B3n M t v H0 A K
   | none=>false)=true:=h
  split at h
  ·rename_i v hv;obtain⟨u,A',h1,h2,h3,h4⟩:=B4A (T:=T) (F:=F) h hA;exact⟨u,A',h1,h2,h3,fun w0 σ0 ws h0 C hC σ f hx hF R hK=>h4 w0 σ0 ws h0 C hC σ f hx hF x hv R hK⟩
  ·cases h
 all_goals exact other h (fun t x e=>by cases e)
def B8Y (M:Mach) (E:World->Prop) (ops:List Oper) (H0:Hp) (s:Sched) (F:Tr EV) (H:Hp) (A':Acc) (F':Tr EV) (H':Hp):Prop:=
 ∀ w0 σ0 ws,E w0->Rep w0 σ0 H0 ws->∀ B:Acc,A'.le B->AOk H0 B->∀ σ f w,Ex σ0 σ->FR σ F f->Rep w0 σ H w->Cls σ0 B.lks w->∀ R:Fr->World->Prop,(∀ τ f' w',Ex σ τ->FR τ F' f'->Rep w0 τ H' w'->R f' w')->dV M.P M.L ops (Cls σ0 B.lks) s f w R
theorem B8Z (hM:MachOk M E) (hC:A09 M E call) {ops:List Oper} {nb:Nat}:∀ (s:Sched) (F:Tr EV) (H:Hp) (A:Acc) (K:Kd),xD M call ops H0 nb s F H A K=true->AOk H0 A->∃ F' H' A',K F' H' A'=true/\A.le A'/\AOk H0 A'/\B8Y M E ops H0 s F H A' F' H':=by
 intro s;induction s with
 | fin=>exact fun F H A K h hA=>⟨F,H,A,h,Acc.le.refl A,hA,fun w0 σ0 ws hE h0 B hB hAB σ f w hx hF hR hc R hK=>hK σ f w (Ex.refl _) hF hR⟩
 | stop=>exact fun F H A K h hA=>⟨F,H,A,h,Acc.le.refl A,hA,fun w0 σ0 ws hE h0 B hB hAB σ f w hx hF hR hc R hK=>trivial⟩
 | z i=>
  intro F H A K h hA;replace h:(match ops[i]? with
   | some o=>A5q M call (some (Nat.add nb i)) ops o F H fun F H=>K F H A
   | none=>false)=true:=h
  split at h
  ·rename_i o ho;obtain⟨F',H',h1,h2⟩:=A4Q hM hC h;refine⟨F',H',A,h1,Acc.le.refl A,hA,fun w0 σ0 ws hE h0 B hB hAB σ f w hx hF hR hc R hK=>?_⟩;show (match ops[i]? with
    | some o=>gOp ops o f (fun T op f dst=>vOp M.P M.L T op f w fun v w'=>N6 f dst v fun f'=>R f' w') (fun f'=>R f' w)
    | none=>False)
   rw [ho];refine h2 w0 σ f w hE hF hR (fun f dst v w'=>N6 f dst v fun f'=>R f' w') _ (fun τ f0 u w' hx' hR' hF'=>?_) (fun f' hR' hF'=>hK σ f' w (Ex.refl _) hF' hR');rw [H4];exact hK τ _ w' hx' hF' hR'
  ·cases h
 | q i s ih=>
  intro F H A K h hA;replace h:(match ops[i]? with
   | some o=>match A3K ops F o.guard with
    | some true=>xQ M H0 o.type o.op F A fun v A=>B6D F o.dst v fun F=>xD M call ops H0 nb s F H A K
    | some false=>B6D F o.dst (lit undef) fun F=>xD M call ops H0 nb s F H A K
    | none=>false
   | none=>false)=true:=h
  split at h
  ·rename_i o ho;have shape:∀ (C:World->Prop) f w R,dV M.P M.L ops C (.q i s) f w R=gOp ops o f (fun T op f dst=>Go.Vc.qOp M.P M.L C T op f fun v=>N6 f dst v fun f'=>dV M.P M.L ops C s f' w R) (fun f'=>dV M.P M.L ops C s f' w R):=fun C f w R=>by
    show (match ops[i]? with
     | some o=>gOp ops o f (fun T op f dst=>Go.Vc.qOp M.P M.L C T op f fun v=>N6 f dst v fun f'=>dV M.P M.L ops C s f' w R) (fun f'=>dV M.P M.L ops C s f' w R)
     | none=>False)=_
    rw [ho]
   split at h
   ·rename_i hg;obtain⟨u,A1,h1,h2,h3,h4⟩:=B8X hM h hA;obtain⟨F1,h5,h6⟩:=A4P h1;obtain⟨F',H',A',h7,h8,h9,h10⟩:=ih F1 H A1 K h5 h3;refine⟨F',H',A',h7,h2.trans h8,h9,fun w0 σ0 ws hE h0 B hB hAB σ f w hx hF hR hc R hK=>?_⟩;rw [shape];refine A3M hg hF fun f' hF'=>h4 w0 σ0 ws h0 _ (fun z hz lk hl=>hz lk (hB.lks lk (h8.lks lk hl))) σ f' hx hF' _ fun u' hu=>?_;rw [H4];exact h10 w0 σ0 ws hE h0 B hB hAB σ _ w hx (h6 σ f' u' hF' hu) hR hc R hK
   ·rename_i hg;obtain⟨F1,h5,h6⟩:=A4P h;obtain⟨F',H',A',h7,h8,h9,h10⟩:=ih F1 H A K h5 hA;refine⟨F',H',A',h7,h8,h9,fun w0 σ0 ws hE h0 B hB hAB σ f w hx hF hR hc R hK=>?_⟩;rw [shape];exact A5x hg hF fun f' hF'=>h10 w0 σ0 ws hE h0 B hB hAB σ _ w hx (h6 σ f' undef hF' (A71 σ)) hR hc R hK
   ·cases h
  ·cases h
 | n i s t ihs iht=>
  intro F H A K h hA;replace h:(match ops[i]? with
   | some o=>A5q M call (some (Nat.add nb i)) ops o F H fun F1 H1=>cond (B6X (A5r H1) A.lks) (xD M call ops H0 nb s F1 H1 ⟨A.lks,H1::A.hs⟩ fun F2 H2 A2=>cond t.isStop (K F2 H2 A2) (xD M call ops H0 nb t F H A2 fun F3 H3 A3=>cond (eqT eqX F2 F3&&eqT B1m H2.t H3.t&&Nat.beq H2.n H3.n) (K F2 H2 A3) false)) false
   | none=>false)=true:=h
  split at h
  ·rename_i o ho;obtain⟨F1,H1,h1,h2⟩:=A4Q hM hC h;obtain⟨h3,h4⟩:=B6 h1;have hA1:AOk H0 ⟨A.lks,H1::A.hs⟩:=⟨hA.at0,fun lk hl h hh=>by
    cases hh with
    | head=>exact A5y (A4L h3 lk hl)
    | tail _ hh=>exact hA.all lk hl h hh⟩
   obtain⟨F2,H2,A2,k1,k2,k3,k4⟩:=ihs F1 H1 _ _ h4 hA1;have hle:A.le A2:=⟨k2.lks,fun h hh=>k2.hs h (zt _ hh)⟩;have hin:H1∈A2.hs:=k2.hs H1 (zu ..)
   -- the first way
   have first_:∀ w0 σ0 ws,E w0->Rep w0 σ0 H0 ws->∀ B:Acc,A2.le B->AOk H0 B->∀ σ f w,Ex σ0 σ->FR σ F f->Rep w0 σ H w->Cls σ0 B.lks w->∀ R:Fr->World->Prop,(∀ τ f' w',Ex σ τ->FR τ F2 f'->Rep w0 τ H2 w'->R f' w')->
     gOp ops o f (fun T op f dst=>vOp M.P M.L T op f w fun v w'=>Cls σ0 B.lks w'/\N6 f dst v fun f'=>dV M.P M.L ops (Cls σ0 B.lks) s f' w' R) (fun f'=>dV M.P M.L ops (Cls σ0 B.lks) s f' w R):=fun w0 σ0 ws hE h0 B hB hAB σ f w hx hF hR hc R hK=>by
    refine h2 w0 σ f w hE hF hR (fun f dst v w'=>Cls σ0 B.lks w'/\N6 f dst v fun f'=>dV M.P M.L ops (Cls σ0 B.lks) s f' w' R) _ (fun τ f0 u w' hx' hR' hF'=>?_) (fun f' hR' hF'=>?_)
    ·have hc':=B7d hAB h0 (hx.trans hx') hR' (hB.hs _ hin);refine⟨hc',?_⟩;rw [H4];exact k4 w0 σ0 ws hE h0 B hB hAB τ _ w' (hx.trans hx') hF' hR' hc' R fun υ f' w'' hx''=>hK υ f' w'' (hx'.trans hx'')
    ·exact k4 w0 σ0 ws hE h0 B hB hAB σ f' w hx hF' hR' hc R hK
   have shape:∀ (C:World->Prop) f w R,dV M.P M.L ops C (.n i s t) f w R=(gOp ops o f (fun T op f dst=>vOp M.P M.L T op f w fun v w'=>C w'/\N6 f dst v fun f'=>dV M.P M.L ops C s f' w' R) (fun f'=>dV M.P M.L ops C s f' w R)/\dV M.P M.L ops C t f w R):=fun C f w R=>by
    show ((match ops[i]? with
     | some o=>gOp ops o f (fun T op f dst=>vOp M.P M.L T op f w fun v w'=>C w'/\N6 f dst v fun f'=>dV M.P M.L ops C s f' w' R) (fun f'=>dV M.P M.L ops C s f' w R)
     | none=>False)/\dV M.P M.L ops C t f w R)=_
    rw [ho]
   cases ht:t.isStop with
   | true=>
    have:t=.stop:=by cases t<;>first | rfl | cases ht
    subst this;refine⟨F2,H2,A2,k1,hle,k3,fun w0 σ0 ws hE h0 B hB hAB σ f w hx hF hR hc R hK=>?_⟩;rw [shape];exact⟨first_ w0 σ0 ws hE h0 B hB hAB σ f w hx hF hR hc R hK,trivial⟩
   | false=>
    have k1':xD M call ops H0 nb t F H A2 (fun F3 H3 A3=>cond (eqT eqX F2 F3&&eqT B1m H2.t H3.t&&Nat.beq H2.n H3.n) (K F2 H2 A3) false)=true:=by rw [ht,cond_false] at k1;exact k1
    obtain⟨F3,H3,A3,m1,m2,m3,m4⟩:=iht F H A2 _ k1' k3;obtain⟨m5,m6⟩:=B6 m1;simp only [z7] at m5;obtain⟨⟨e1,e2⟩,e3⟩:=m5;have e1:=A72 B4j _ _ e1;have e2:=A72 B37 _ _ e2;subst e1;refine⟨F2,H2,A3,m6,hle.trans m2,m3,fun w0 σ0 ws hE h0 B hB hAB σ f w hx hF hR hc R hK=>?_⟩;rw [shape];refine⟨first_ w0 σ0 ws hE h0 B (m2.trans hB) hAB σ f w hx hF hR hc R hK,m4 w0 σ0 ws hE h0 B hB hAB σ f w hx hF hR hc R fun τ f' w' hx' hF' hR'=>hK τ f' w' hx' hF' ?_⟩;exact⟨hR'.below,by rw [e2];exact hR'.none,by rw [e2];exact hR'.ent,by rw [e2];exact hR'.sep⟩
  ·cases h
theorem A9H (hM:MachOk M E) (hC:A09 M E call) {id n:Nat} {ops:Array Oper} {s:Sched} {nq:List Bool} {K:Tr EV->Hp->Bool} (hs:A5m ops.toList nq s=true) (h:xD M call ops.toList H H.n s F ⟨H.t,n⟩ ⟨[],[]⟩ (fun F H _=>K F H)=true):∃ F' H',K F' H'=true/\B7a E F H F' H' (fun f w R=>Drawn M.P id ops f w R):=by obtain⟨F',H',A',h1,h2,h3,h4⟩:=B8Z hM hC s F ⟨H.t,n⟩ ⟨[],[]⟩ _ h ⟨fun lk hl=>(by cases hl),fun lk hl=>by cases hl⟩;refine⟨F',H',h1,fun w0 σ f w hE hF hR R hK=>?_⟩;have hR':=hR.drew;have hR2:Rep w0 σ ⟨H.t,n⟩ w.drew:=⟨hR'.below,hR'.none,hR'.ent,hR'.sep⟩;have hcls:Cls σ A'.lks w.drew:=fun lk hl=>B71 hR' (h3.at0 lk hl);exact B6b (ops:=ops.toList) hM.lay hM.mixed s (Cls σ A'.lks) (B1f hs) hcls (h4 w0 σ w.drew hE hR' A' (Acc.le.refl A') h3 σ f w.drew (Ex.refl _) hF hR2 hcls R hK)
end
end Go.Vx
end
section
namespace Go.Vx
open Go Go.Vc Go.RowKit
section
variable {M:Mach} {E:World->Prop} {T:Nat} {F:Tr EV} {H H0:Hp} {σ σ0 τ:Sg} {w0 w:World} {f:Fr} {call:Nat->List EV->Hp->Kt->Bool} {g:Nat}
def B7e (M:Mach) (E:World->Prop) (F:Tr EV) (H:Hp) (e:Exit) (F':Tr EV) (H':Hp) (X:Fr->World->(Exit->Fr->World->Prop)->Prop):Prop:=
 ∀ w0 σ f w,E w0->FR σ F f->Rep w0 σ H w->∀ R:Exit->Fr->World->Prop,(∀ τ f' w',Ex σ τ->FR τ F' f'->Rep w0 τ H' w'->R e f' w')->X f w R
def B4B (M:Mach) (E:World->Prop) (X:Fr->World->(Exit->Fr->World->Prop)->Prop):Nat->Tr EV->Hp->Exit->Tr EV->Hp->Prop
 | 0,_,_,_,_,_=>False
 | n+1,F,H,e',F',H'=>∃ e F1 H1,B7e M E F H e F1 H1 X/\(match e with
  | .normal=>B4B M E X n F1 H1 e' F' H'
  | e=>e'=e/\F'=F1/\H'=H1)
theorem B7f (hF:FR σ F f):∃ l:List (Nat × Value),B19 f l/\∀ u,FR σ F (mk l u):=by
 obtain⟨ks,hk⟩:=F.keys;refine⟨ks.map fun k=>(k,f k),?_,fun u t v e=>?_⟩
 ·clear hk;induction ks with
  | nil=>trivial
  | cons k ks ih=>exact⟨rfl,ih⟩
 ·have hin:=hk t v e;have:mk (ks.map fun k=>(k,f k)) u t=f t:=by
   have h2:lk (ks.map fun k=>(k,f k)) t=some (f t):=by
    clear hk e;induction ks with
    | nil=>cases hin
    | cons k ks ih=>
     show (bif Nat.beq t k then some (f k) else lk (ks.map fun k=>(k,f k)) t)=some (f t);cases hb:Nat.beq t k with
     | true=>rw [z8 hb];rfl
     | false=>
      refine ih ?_;cases hin with
      | head=>rw [Nat.beq_refl] at hb;cases hb
      | tail _ h=>exact h
   unfold mk;rw [h2]
  rw [this];exact hF t v e
theorem B4C (hM:MachOk M E) (hC:A09 M E call):∀ (c:Code) (F:Tr EV) (H:Hp) (K:Kc),A1K M call g c F H K=true->∃ e F' H',K e F' H'=true/\B7e M E F H e F' H' (M9 M.P M.L c):=by
 intro c;induction c with
 | skip=>exact fun F H K h=>⟨.normal,F,H,h,fun w0 σ f w hE hF hR R hK=>hK σ f w (Ex.refl _) hF hR⟩
 | label l=>exact fun F H K h=>⟨.normal,F,H,h,fun w0 σ f w hE hF hR R hK=>hK σ f w (Ex.refl _) hF hR⟩
 | ret=>exact fun F H K h=>⟨.ret,F,H,h,fun w0 σ f w hE hF hR R hK=>hK σ f w (Ex.refl _) hF hR⟩
 | exit id=>exact fun F H K h=>⟨.exit id,F,H,h,fun w0 σ f w hE hF hR R hK=>hK σ f w (Ex.refl _) hF hR⟩
 | rangeFunc=>exact fun F H K h=>by cases h
 | scope=>exact fun F H K h=>by cases h
 | goto=>exact fun F H K h=>by cases h
 | refuse=>exact fun F H K h=>by cases h
 | region id ops d=>
  intro F H K h;cases d with
  | true=>
   replace h:cond (A5m ops.toList (B8T M.L (M.late g id) ops.toList 0 0) (B3m M.L (M.late g id) ops.toList)) (fN (Nat.add H.n ops.toList.length) fun n=>xD M call ops.toList H H.n (B3m M.L (M.late g id) ops.toList) F ⟨H.t,n⟩ ⟨[],[]⟩ fun F H _=>K .normal F H) false=true:=h;obtain⟨h1,h2⟩:=B6 h;rw [V8] at h2;obtain⟨F',H',h3,h4⟩:=A9H (K:=K .normal) (id:=id) hM hC h1 h2;exact⟨.normal,F',H',h3,fun w0 σ f w hE hF hR R hK=>h4 w0 σ f w hE hF hR (R .normal) hK⟩
  | false=>
   obtain⟨F',H',h3,h4⟩:=B1w hM hC ops.toList F H (K .normal) h;exact⟨.normal,F',H',h3,fun w0 σ f w hE hF hR R hK=>h4 w0 σ f w hE hF hR (R .normal) hK⟩
 | seq a b iha ihb=>
  intro F H K h;obtain⟨e,F1,H1,h1,h2⟩:=iha F H _ (show A1K M call g a F H (fun e F H=>match e with
   | .normal=>A1K M call g b F H K
   | e=>K e F H)=true from h)
  cases e with
  | normal=>
   obtain⟨e,F',H',h3,h4⟩:=ihb F1 H1 K h1;exact⟨e,F',H',h3,fun w0 σ f w hE hF hR R hK=>h2 w0 σ f w hE hF hR (B6Y (M9 M.P M.L b) R) fun τ f' w' hx hF' hR'=>h4 w0 τ f' w' hE hF' hR' R fun υ f2 w2 hx2=>hK υ f2 w2 (hx.trans hx2)⟩
  | _=>exact⟨_,F1,H1,h1,fun w0 σ f w hE hF hR R hK=>h2 w0 σ f w hE hF hR (B6Y (M9 M.P M.L b) R) hK⟩
 | cond c a b iha ihb=>
  intro F H K h;replace h:(match xEv F c with
   | some (.o (.l (.bool b')))=>Bool.rec (motive:=fun _=>Bool) (A1K M call g b F H K) (A1K M call g a F H K) b'
   | _=>false)=true:=h
  split at h
  ·rename_i t ht;have shape:∀ (σ:Sg) f w R,FR σ F f->M9 M.P M.L (.cond c a b) f w R=Bool.rec (motive:=fun _=>Prop) (M9 M.P M.L b f w R) (M9 M.P M.L a f w R) t:=fun σ f w R hF=>by
    show (match ev f c with
     | .bool t=>Bool.rec (motive:=fun _=>Prop) (M9 M.P M.L b f w R) (M9 M.P M.L a f w R) t
     | _=>False)=_
    have e:ev f c=.bool t:=B9 hF ht;rw [e]
   cases t with
   | true=>
    obtain⟨e,F',H',h3,h4⟩:=iha F H K h;exact⟨e,F',H',h3,fun w0 σ f w hE hF hR R hK=>by rw [shape σ f w R hF];exact h4 w0 σ f w hE hF hR R hK⟩
   | false=>
    obtain⟨e,F',H',h3,h4⟩:=ihb F H K h;exact⟨e,F',H',h3,fun w0 σ f w hE hF hR R hK=>by rw [shape σ f w R hF];exact h4 w0 σ f w hE hF hR R hK⟩
  ·cases h
 | block id b ih=>
  intro F H K h;obtain⟨e,F1,H1,h1,h2⟩:=ih F H _ (show A1K M call g b F H (fun e F H=>match e with
   | .exit i=>cond (Nat.beq i id) (K .normal F H) (K (.exit i) F H)
   | e=>K e F H)=true from h)
  cases e with
  | exit i=>
   replace h1:cond (Nat.beq i id) (K .normal F1 H1) (K (.exit i) F1 H1)=true:=h1;cases hb:Nat.beq i id with
   | true=>
    rw [hb] at h1;refine⟨.normal,F1,H1,h1,fun w0 σ f w hE hF hR R hK=>h2 w0 σ f w hE hF hR (A6p id R) fun τ f' w' hx hF' hR'=>?_⟩;show cond (Nat.beq i id) (R .normal f' w') (R (.exit i) f' w');rw [hb];exact hK τ f' w' hx hF' hR'
   | false=>
    rw [hb] at h1;refine⟨.exit i,F1,H1,h1,fun w0 σ f w hE hF hR R hK=>h2 w0 σ f w hE hF hR (A6p id R) fun τ f' w' hx hF' hR'=>?_⟩;show cond (Nat.beq i id) (R .normal f' w') (R (.exit i) f' w');rw [hb];exact hK τ f' w' hx hF' hR'
  | _=>exact⟨_,F1,H1,h1,fun w0 σ f w hE hF hR R hK=>h2 w0 σ f w hE hF hR (A6p id R) hK⟩
 | loop b ih=>
  intro F H K h;have hgo:∀ n F H,A7u (A1K M call g b) K n F H=true->∃ e F' H',K e F' H'=true/\B4B M E (M9 M.P M.L b) n F H e F' H':=by
   intro n;induction n with
   | zero=>exact fun F H h=>by cases h
   | succ n ihn=>
    intro F H h;obtain⟨e,F1,H1,h1,h2⟩:=ih F H _ (show A1K M call g b F H (fun e F H=>match e with
     | .normal=>A7u (A1K M call g b) K n F H
     | e=>K e F H)=true from h)
    cases e with
    | normal=>
     obtain⟨e',F',H',h3,h4⟩:=ihn F1 H1 h1;exact⟨e',F',H',h3,.normal,F1,H1,h2,h4⟩
    | _=>exact⟨_,F1,H1,h1,_,F1,H1,h2,rfl,rfl,rfl⟩
  obtain⟨e,F',H',h1,h2⟩:=hgo A7t F H (show A7u (A1K M call g b) K A7t F H=true from h);refine⟨e,F',H',h1,fun w0 σ f w hE hF hR R hK=>?_⟩;obtain⟨l,hl1,hl2⟩:=B7f hF;show ∃ (α:Type) (st:α->List (Nat × Value)) (inv:α->World->Prop) (μ:α->World->Nat) (x0:α),
   B19 f (st x0)/\inv x0 w/\∀ (x:α) (w':World) (u:Fr),inv x w'->M9 M.P M.L b (mk (st x) u) w' (B6Z st inv μ x w' R)
  refine⟨Nat × Tr EV × Hp × Sg × List (Nat × Value),fun x=>x.2.2.2.2,fun x w=>B4B M E (M9 M.P M.L b) x.1 x.2.1 x.2.2.1 e F' H'/\Ex σ x.2.2.2.1/\Rep w0 x.2.2.2.1 x.2.2.1 w/\∀ u,FR x.2.2.2.1 x.2.1 (mk x.2.2.2.2 u),fun x _=>x.1,⟨A7t,F,H,σ,l⟩,hl1,⟨h2,Ex.refl _,hR,hl2⟩,?_⟩;rintro⟨n,G,J,τ,l'⟩ w' u ⟨k1,k2,k3,k4⟩;replace k1:B4B M E (M9 M.P M.L b) n G J e F' H':=k1;cases n with
  | zero=>exact k1.elim
  | succ n=>
   obtain⟨e1,F1,H1,m1,m2⟩:=k1;refine m1 w0 τ _ w' hE (k4 u) k3 _ fun υ f' w'' hx hF' hR'=>?_;cases e1 with
   | normal=>
    obtain⟨l2,q1,q2⟩:=B7f hF';exact⟨⟨n,F1,H1,υ,l2⟩,q1,⟨m2,k2.trans hx,hR',q2⟩,Nat.lt_succ_self n⟩
   | _=>
    obtain⟨rfl,rfl,rfl⟩:=m2;exact hK υ f' w'' (k2.trans hx) hF' hR'
end
end Go.Vx
end
section
namespace Go.Vx
open Go Go.Vc Go.RowKit
section
variable {M:Mach} {E:World->Prop} {T:Nat} {F:Tr EV} {H H0:Hp} {σ σ0 τ:Sg} {w0 w:World} {f:Fr} {call:Nat->List EV->Hp->Kt->Bool} {g:Nat}
theorem All2.reverse {α β:Type} {R:α->β->Prop}:∀ {al:List α} {bs:List β},All2 R al bs->All2 R al.reverse bs.reverse
 | [],[],_=>trivial
 | a::al,b::bs,h=>by rw [List.reverse_cons,List.reverse_cons];exact All2.append (All2.reverse h.2) ⟨h.1,trivial⟩
theorem A6m:∀ (rs:List ResultVar) (vs:List EV) (K:List EV->Bool),B4g M F H rs vs K=true->∃ vs',K vs'=true/\∀ w0 σ f w us,FR σ F f->Rep w0 σ H w->All2 (VR σ) vs us->∀ R:List Value->Prop,(∀ us',All2 (VR σ) vs' us'->R us')->A4S M.L f w rs us R
 | [],vs,K,h=>⟨vs.reverse,h,fun w0 σ f w us hF hR hv R hK=>hK _ hv.reverse⟩
 | .tmp t::rs,vs,K,h=>by
  replace h:(match F.get t with
   | some v=>B4g M F H rs (v::vs) K
   | none=>false)=true:=h
  split at h
  ·rename_i v hv;obtain⟨vs',h1,h2⟩:=A6m rs (v::vs) K h;refine⟨vs',h1,fun w0 σ f w us hF hR hu R hK=>?_⟩;show P1 (f t) fun v=>A4S M.L f w rs (v::us) R;rw [G6];exact h2 w0 σ f w (f t::us) hF hR ⟨hF t v hv,hu⟩ R hK
  ·cases h
 | .cell a t::rs,vs,K,h=>by
  replace h:(match F.get a with
   | some p=>match A6f M t p H with
    | some v=>fV v fun v=>B4g M F H rs (v::vs) K
    | none=>false
   | none=>false)=true:=h
  split at h
  ·rename_i p hp;split at h
   ·rename_i v hv;rw [A1J] at h;obtain⟨vs',h1,h2⟩:=A6m rs (v::vs) K h;refine⟨vs',h1,fun w0 σ f w us hF hR hu R hK=>?_⟩;unfold A6f at hv;split at hv
    ·split at hv
     ·rename_i hr;obtain⟨q,hq,hl⟩:=B4h hv hR hr;obtain⟨r,hr',e⟩:=hF a _ hp;rw [show σ _=some r from hr'] at hq;cases hq;have:=hl (fun v _=>A4S M.L f w rs (v::us) R) fun u hu'=>h2 w0 σ f w (u::us) hF hR ⟨hu',hu⟩ R hK;show (match M.L.ty t,f a with
       | .none,_=>False
       | .array _ _ _ z,.pointer (some p)=>∃ cs:List Value,cs.length=z.length/\cellsAt w p cs 0/\A4S M.L f w rs (.agg cs.toArray::us) R
       | .struct _ z,.pointer (some p)=>∃ cs:List Value,cs.length=z.length/\cellsAt w p cs 0/\A4S M.L f w rs (.agg cs.toArray::us) R
       | _,.pointer (some p)=>∃ v,w.cell? p=some v/\A4S M.L f w rs (v::us) R
       | _,_=>False)
      rw [e];cases hd:M.L.ty t<;>rw [hd] at this<;>exact this
     ·cases hv
    ·cases hv
   ·cases h
  ·cases h
theorem B1z:∀ {vs:List EV} {ys:List (Bool × List EB)} {us:List Value},B8U vs=some ys->All2 (VR σ) vs us->All2 (TR σ) ys us
 | [],ys,us,h,k=>by
  cases h;cases us with
  | nil=>trivial
  | cons u us=>exact k.elim
 | v::vs,ys,us,h,k=>by
  cases us with
  | nil=>exact k.elim
  | cons u us=>
   replace h:(match B8U vs with
    | some r=>match (generalizing:=false) v with
     | .o x=>some ((false,[x])::r)
     | .a xs=>some ((true,xs)::r)
     | .t _=>none
    | none=>none)=some ys:=h
   split at h
   ·rename_i r hr;have ih:=B1z hr k.2;cases v with
    | o x=>cases h;exact⟨⟨[u],⟨k.1,trivial⟩,.inr ⟨rfl,rfl⟩⟩,ih⟩
    | a xs=>
     cases h;obtain⟨cs,h1,h2⟩:=k.1;exact⟨⟨cs,h1,.inl ⟨rfl,h2⟩⟩,ih⟩
    | t y=>cases h
   ·cases h
theorem B6K {vs:List EV} {v:EV} {us:List Value} (h:B6F vs=some v) (k:All2 (VR σ) vs us):VR σ v (A4b us):=by
 unfold B6F at h;split at h
 ·rename_i x;cases h;obtain⟨u,rfl,hu⟩:=k.one;exact hu
 ·rename_i hne;split at h
  ·rename_i ys hy;cases h;have hl:=k.len;have:A4b us=.tuple us.toArray:=by
    cases us with
    | nil=>rfl
    | cons u us=>cases us with
     | nil=>
      cases vs with
      | nil=>cases hl
      | cons x vs=>cases vs with
       | nil=>exact absurd rfl (hne x)
       | cons y vs=>simp at hl
     | cons u' us=>rfl
   rw [this];exact⟨us,B1z hy k,rfl⟩
  ·cases h
theorem A73:∀ (args:List EV) (i:Nat) (F:Tr EV) (K:Tr EV->Bool),B3o args i F K=true->∃ F',K F'=true/\∀ σ f us,FR σ F f->All2 (VR σ) args us->(∀ k u,us[k]?=some u->f (i+k)=u)->FR σ F' f
 | [],i,F,K,h=>⟨F,h,fun σ f us hF _ _=>hF⟩
 | v::args,i,F,K,h=>by
  obtain⟨F1,h1,h2⟩:=Tr.setK_ok _ _ _ _ (show F.setK i v (fun F=>B3o args (Nat.succ i) F K)=true from h);obtain⟨F',h3,h4⟩:=A73 args (i+1) F1 K h1;refine⟨F',h3,fun σ f us hF hu hf=>?_⟩;cases us with
  | nil=>exact hu.elim
  | cons u us=>
   refine h4 σ f us (fun j x hx=>?_) hu.2 fun k u' hk=>?_
   ·rw [h2] at hx;by_cases e:j=i
    ·subst e;rw [y6 rfl] at hx;cases hx;have:=hf 0 u rfl;rw [Nat.add_zero] at this;rw [this];exact hu.1
    ·rw [y7 e] at hx;exact hF j x hx
   ·have:=hf (k+1) u' (by simpa using hk);rwa [show i+1+k=i+(k+1) by omega]
theorem B10 (hM:MachOk M E):∀ fuel,A09 M E (A88 M fuel)
 | 0=>fun n args H K h=>by cases h
 | fuel+1=>fun n args H K h=>by
  replace h:(match M.prim n args H with
   | some v=>fV v fun v=>K v H
   | none=>cond (M.L.fns n) (match M.P.funcs[n]? with
    | some fn=>match fn.body with
     | some c=>cond (Nat.ble args.length fn.ntmps&&K7 fn.ntmps c) (B3o args 0 .e fun F=>A1K M (A88 M fuel) n c F H fun e F H=>match e with
       | .normal=>B4g M F H fn.results.toList [] fun vs=>match B6F vs with
        | some v=>fV v fun v=>K v H
        | none=>false
       | .ret=>B4g M F H fn.results.toList [] fun vs=>match B6F vs with
        | some v=>fV v fun v=>K v H
        | none=>false
       | _=>false) false
     | none=>false
    | none=>false) false)=true:=h
  split at h
  ·rename_i v hv;rw [A1J] at h;exact⟨v,H,h,fun w0 σ w us hE hR hu R hK=>hM.prim n args H v hv w0 σ w us hE hR hu R fun u w' hu' hb=>hK σ u w' (Ex.refl _) hu' (hR.keep hb)⟩
  ·obtain⟨hn,h⟩:=B6 h;split at h
   ·rename_i fn hfn;split at h
    ·rename_i c hc;obtain⟨h1,h2⟩:=B6 h;rw [z7] at h1;obtain⟨F,h3,h4⟩:=A73 args 0 .e _ h2;obtain⟨e,F',H',h5,h6⟩:=B4C hM (B10 hM fuel) c F H _ h3;have res:B4g M F' H' fn.results.toList [] (fun vs=>match B6F vs with
       | some v=>fV v fun v=>K v H'
       | none=>false)=true->(∀ f w (R:Ending->World->Prop),(A4S M.L f w fn.results.toList [] fun vs=>R (.returned (A4b vs)) w)->fnK M.L fn.results R e f w)->∃ v H',K v H'=true/\∀ w0 σ w us,E w0->Rep w0 σ H w->All2 (VR σ) args us->∀ R:Value->World->Prop,(∀ τ u w',Ex σ τ->VR τ v u->Rep w0 τ H' w'->R u w')->X3 M.P M.L n us w R:=fun h hk=>by
      obtain⟨vs,k1,k2⟩:=A6m _ _ _ h;split at k1
      ·rename_i v hv;rw [A1J] at k1;refine⟨v,H',k1,fun w0 σ w us hE hR hu R hK=>?_⟩;show cond (M.L.fns n) (CallVc M.P n us w R) (ExtVc M.P n us w R);rw [hn,cond_true];refine⟨A3R hM.lay hfn hc (by rw [hu.len];exact h1.1) h1.2 ?_⟩;refine h6 w0 σ _ w hE (h4 σ _ us (fun t v e=>by cases e) hu fun k u hk=>?_) hR _ fun τ f' w' hx hF' hR'=>hk _ _ _ (k2 w0 τ f' w' [] hF' hR' trivial _ fun us' hu'=>⟨_,rfl,hK τ _ w' hx (B6K hv hu') hR'⟩);show us.getD (0+k) undef=u;rw [zm,List.getD_eq_getElem?_getD,hk];rfl
      ·cases k1
     cases e with
     | normal=>exact res h5 fun f w R h=>h
     | ret=>exact res h5 fun f w R h=>h
     | _=>cases h5
    ·cases h
   ·cases h
theorem rep0 (w:World) (n:Nat):Rep w (fun _=>none) ⟨.e,n⟩ w:=⟨Below.refl _ w,fun _ _=>rfl,fun N Z h=>(by cases h),fun N M Z Z' q r _ h=>(by cases h)⟩
def T8 (v:EV) (_:Hp):Bool:=match v with
 | .o (.l (.bool b))=>b
 | _=>false
theorem B4D (hM:MachOk M E) {n fuel:Nat} (hn:M.L.fns n=true) (h:A88 M fuel n [] ⟨.e,0⟩ T8=true) (hE:E w):Calls M.P n #[] w fun e w'=>e=.returned (.bool true)/\Below w.heap.size w w':=by
 obtain⟨v,H',h1,h2⟩:=B10 hM fuel n [] _ _ h;have:=h2 w _ w [] hE (rep0 w 0) trivial (fun u w'=>u=.bool true/\Below w.heap.size w w') fun τ u w' _ hu hR=>⟨(by
  unfold T8 at h1;split at h1
  ·subst h1;exact hu
  ·cases h1),hR.below⟩
 replace this:cond (M.L.fns n) (CallVc M.P n [] w fun u w'=>u=.bool true/\Below w.heap.size w w') (ExtVc M.P n [] w fun u w'=>u=.bool true/\Below w.heap.size w w'):=this;rw [hn,cond_true] at this;exact this.calls.mono fun e w' ⟨v,h1,h2,h3⟩=>⟨by rw [h1,h2],h3⟩
end
end Go.Vx
end
section
namespace Go.Proofs.YtefdfaeieekioaaGreatDoor
open Go.Vc Go.Vx Go.RowKit Go.Fl
noncomputable def und (x:Nat):Int:=cond (Nat.beq (x % 2 ^ 63) 0) 0 (cond (Nat.beq (x / 2 ^ 63) 0) (Int.ofNat ((x % 2 ^ 52+2 ^ 52) / 2 ^ (1075-x % 2 ^ 63 / 2 ^ 52))) (-Int.ofNat ((x % 2 ^ 52+2 ^ 52) / 2 ^ (1075-x % 2 ^ 63 / 2 ^ 52))))
noncomputable def okZ (x:Nat):Bool:=Nat.beq (dbl (und x)) x&&leI 0 (und x)&&leI (und x) 65520
noncomputable def cx (z:Int × Int):EV:=lit (.complex .f64 (dbl z.1) (dbl z.2))
theorem A3O {x:Nat} (h:okZ x=true):x=dbl (und x)/\Is x (und x)/\0<=und x/\und x<65521:=by unfold okZ at h;simp only [z7] at h;obtain⟨⟨h1,h2⟩,h3⟩:=h;have e:=z8 h1;have h2:=J8 h2;have h3:=J8 h3;have:=F5 (und x) (by omega);rw [e] at this;exact⟨e.symm,this,h2,by omega⟩
noncomputable def B6L (v:EV) (H:Hp):Bool:=match v with
 | .o (.l (.slice none n c))=>Nat.beq n 0&&Nat.beq c 0
 | .o (.s N o n (.k c))=>Nat.ble c 1000000
 | .o (.s N o n (.j _ _))=>match H.t.get N with
  | some (.r _)=>true
  | some (.c _ sz _)=>not (Nat.beq sz 0)
  | _=>false
 | _=>false
noncomputable def prim (done:List Nat) (n:Nat) (args:List EV) (H:Hp):Option EV:=match n,args with
 | 261,[.o (.l (.complex .f64 x y)),.o (.l (.complex .f64 x' y'))]=>cond (okZ x&&okZ y&&okZ x'&&okZ y') (some (cx ((und x*und x'-und y*und y') % 65521,(und x*und y'+und y*und x') % 65521))) none
 | 176,[.o (.l (.complex .f64 x y))]=>cond (okZ x&&okZ y) (some (lit (.string ⟨(X5 (und x,und y)).toArray⟩))) none
 | 105,[.o (.l (.string t))]=>some (.t [(false,[.l (.complex .f64 (dbl (Y7 t.data.toList).1.1) (dbl (Y7 t.data.toList).1.2))]),(false,[.l (.bool (Y7 t.data.toList).2)])])
 | 177,[v]=>match sliceB v H with
  | some l=>cond (B6L v H) (some (cx (zOn (0,1) l))) none
  | none=>none
 | 216,[.o (.l (.int .i64 n))]=>cond (A2U n) (some (lit (.string ⟨(Lib.itoa n).toArray⟩))) none
 | 213,[.o (.l (.int .i64 n)),.o (.l (.int .i64 (.ofNat 10)))]=>cond (A2U n) (some (lit (.string ⟨(Lib.itoa n).toArray⟩))) none
 | 286,[.o (.l (.string t)),.o (.l (.int .i64 (.ofNat 10))),.o (.l (.int .i64 (.ofNat 64)))]=>cond (Nat.ble t.data.toList.length 1000) (match Lib.parseIntB 64 t.data.toList with
  | .ok n=>some (.t [(false,[.l (.int .i64 n)]),(false,[.l .nilIface])])
  | _=>none) none
 | 173,[.o (.l (.string s)),.o (.l (.int .u8 c))]=>some (lit (.int .i64 (Lib.indexByte s.data.toList c.toNat.toUInt8)))
 | 284,[x]=>some x
 | n,[]=>cond (B7S n done) (some (lit (.bool true))) none
 | _,_=>none
noncomputable def B8a (xs:List EB):Option Ver:=match xs with
 | [.l (.int .i64 v),.l (.bool g),.l (.string b)]=>some ⟨v,g,b⟩
 | _=>none
noncomputable def B8b (xs:List EB):Option Res:=match xs with
 | [.l (.int .i64 e),.l (.int .i64 v)]=>some ⟨e,v⟩
 | _=>none
noncomputable def B8c (xs:List EB):Option Mem:=match xs with
 | [.l (.int .i64 r),.l (.int .i64 e),.l (.int .i64 v)]=>some ⟨r,⟨e,v⟩⟩
 | _=>none
noncomputable def dE (xs:List EB):Option D:=match xs with
 | [.l (.int .i64 a),.l (.string b),.l (.string c),.l (.int .i64 d),.l (.int .i64 e),.l (.string f),.l (.int .i64 g),.l (.int .i64 h)]=>some ⟨a,b,c,d,e,f,g,h⟩
 | _=>none
noncomputable def B8d (xs:List EB):Option (List Int):=match xs with
 | [.l (.int .i64 a),.l (.int .i64 b),.l (.int .i64 c),.l (.int .i64 d),.l (.int .i64 e)]=>some [a,b,c,d,e]
 | _=>none
noncomputable def both {α:Type} (f:List EB->Option α) (r:α->α->Bool) (xs ys:List EB):Option Bool:=match f xs,f ys with
 | some a,some b=>some (r a b)
 | _,_=>none
noncomputable def qEq (T:Nat) (xs ys:List EB):Option Bool:=match T with
 | 36=>both B8b (fun a b=>a.err==b.err&&a.ver==b.ver) xs ys
 | 45=>both dE eqD xs ys
 | 39=>both B8d (fun a b=>a==b) xs ys
 | 101=>both B8c B40 xs ys
 | 147=>both B8a B2V xs ys
 | _=>none
theorem A2h {α:Type} {f:List EB->Option α} {r:α->α->Bool} {xs ys:List EB} {b:Bool} (h:both f r xs ys=some b):∃ x y,f xs=some x/\f ys=some y/\b=r x y:=by
 unfold both at h;split at h
 ·rename_i x y hx hy;cases h;exact⟨x,y,hx,hy,rfl⟩
 ·cases h
section
variable {σ:Sg}
theorem B11 {xs:List EB} {v:Ver} {cs:List Value} (h:B8a xs=some v) (k:All2 (BR σ) xs cs):cs=K2 v:=by
 unfold B8a at h;split at h
 ·cases h
  match cs,k with
  | [_,_,_],⟨h1,h2,h3,_⟩=>cases h1;cases h2;cases h3;rfl
 ·cases h
theorem B12 {xs:List EB} {v:Res} {cs:List Value} (h:B8b xs=some v) (k:All2 (BR σ) xs cs):cs=[.int .i64 v.err,.int .i64 v.ver]:=by
 unfold B8b at h;split at h
 ·cases h
  match cs,k with
  | [_,_],⟨h1,h2,_⟩=>cases h1;cases h2;rfl
 ·cases h
theorem B13 {xs:List EB} {v:Mem} {cs:List Value} (h:B8c xs=some v) (k:All2 (BR σ) xs cs):cs=F7 v:=by
 unfold B8c at h;split at h
 ·cases h
  match cs,k with
  | [_,_,_],⟨h1,h2,h3,_⟩=>cases h1;cases h2;cases h3;rfl
 ·cases h
theorem B7g {xs:List EB} {v:D} {cs:List Value} (h:dE xs=some v) (k:All2 (BR σ) xs cs):cs=dC v:=by
 unfold dE at h;split at h
 ·cases h
  match cs,k with
  | [_,_,_,_,_,_,_,_],⟨h1,h2,h3,h4,h5,h6,h7,h8,_⟩=>cases h1;cases h2;cases h3;cases h4;cases h5;cases h6;cases h7;cases h8;rfl
 ·cases h
theorem B14 {xs:List EB} {v:List Int} {cs:List Value} (h:B8d xs=some v) (k:All2 (BR σ) xs cs):∃ a b c d e,v=[a,b,c,d,e]/\cs=[.int .i64 a,.int .i64 b,.int .i64 c,.int .i64 d,.int .i64 e]:=by
 unfold B8d at h;split at h
 ·cases h
  match cs,k with
  | [_,_,_,_,_],⟨h1,h2,h3,h4,h5,_⟩=>cases h1;cases h2;cases h3;cases h4;cases h5;exact⟨_,_,_,_,_,rfl,rfl⟩
 ·cases h
end
theorem B7h (T:Nat) (xs ys:List EB) (r:Bool) (h:qEq T xs ys=some r) (σ:Sg) (cs ds:List Value) (hx:All2 (BR σ) xs cs) (hy:All2 (BR σ) ys ds) (ox oy:Operand) (w:World):
  (do eqGuard .eql T ox oy (.agg cs.toArray) (.agg ds.toArray);Go.binOp .eql T (.agg cs.toArray) (.agg ds.toArray):Sem Value).run Tryz.prog w=.ok (.bool r) w/\
  (do eqGuard .neq T ox oy (.agg cs.toArray) (.agg ds.toArray);Go.binOp .neq T (.agg cs.toArray) (.agg ds.toArray):Sem Value).run Tryz.prog w=.ok (.bool (!r)) w:=by
 unfold qEq at h;split at h
 ·obtain⟨a,b,h1,h2,rfl⟩:=A2h h;rw [B12 h1 hx,B12 h2 hy];exact⟨A1w B4Q (fun w=>A3f 9998 w a b) ox oy w,A1x B4Q (fun w=>A3f 9998 w a b) ox oy w⟩
 ·obtain⟨a,b,h1,h2,rfl⟩:=A2h h;rw [B7g h1 hx,B7g h2 hy];exact⟨A1w A94 (fun w=>B4O 9998 w a b) ox oy w,A1x A94 (fun w=>B4O 9998 w a b) ox oy w⟩
 ·obtain⟨a,b,h1,h2,rfl⟩:=A2h h;obtain⟨a0,a1,a2,a3,a4,rfl,rfl⟩:=B14 h1 hx;obtain⟨b0,b1,b2,b3,b4,rfl,rfl⟩:=B14 h2 hy;exact⟨A1w A99 (fun w=>A98 9998 w a0 a1 a2 a3 a4 b0 b1 b2 b3 b4) ox oy w,A1x A99 (fun w=>A98 9998 w a0 a1 a2 a3 a4 b0 b1 b2 b3 b4) ox oy w⟩
 ·obtain⟨a,b,h1,h2,rfl⟩:=A2h h;rw [B13 h1 hx,B13 h2 hy];exact⟨A1w B4R (fun w=>A7K 9997 w a b) ox oy w,A1x B4R (fun w=>A7K 9997 w a b) ox oy w⟩
 ·obtain⟨a,b,h1,h2,rfl⟩:=A2h h;rw [B11 h1 hx,B11 h2 hy];exact⟨A1w B4P (fun w=>A7J 9998 w a b) ox oy w,A1x B4P (fun w=>A7J 9998 w a b) ox oy w⟩
 ·cases h
def lateT:List (Nat × Nat × Nat):=[(31,11,3),(127,6,3),(65,5,4),(98,7,1),(54,1,1),(54,1,4),(54,5,8),(73,12,4),(96,2,4),(122,8,3),(131,5,1),(133,6,6),(190,15,1),(41,4,4),(47,8,6)]
def late (g id i:Nat):Bool:=lateT.any fun x=>Nat.beq x.1 g&&Nat.beq x.2.1 id&&Nat.beq x.2.2 i
noncomputable def B15 (done:List Nat):Mach:=⟨Tryz.prog,lay,⟨qEq,B7h⟩,late,prim done⟩
theorem B7i {v:EV} {H:Hp} {σ:Sg} {w0 w:World} {u:Value} {l:List UInt8} (h:sliceB v H=some l) (hc:B6L v H=true) (hR:Rep w0 σ H w) (hu:VR σ v u):∃ A cap,u=.slice A l.length cap/\Row (fun _=>True) w A l.length cap (bv l):=by
 obtain⟨A,cap,rfl,h1,h2⟩:=A5u h hR hu;have hcap:l.length<=cap/\cap<=maxLen:=by
  unfold B6L at hc;split at hc
  ·obtain⟨k1,k2⟩:=Bool.and_eq_true_iff.1 hc;have k1:=z8 k1;have k2:=z8 k2;have e:Value.slice A l.length cap=.slice none _ _:=hu;cases e;rw [k1,k2];exact⟨zc _,zb _⟩
  ·obtain⟨q,a,cp,hq,⟨k1,k2,k3⟩,e⟩:=hu;cases e;have:=ze hc;refine⟨by rw [k2];exact k3,?_⟩;rw [k2];simp only [maxLen];omega
  ·rename_i N o n d b;obtain⟨q,a,cp,hq,⟨k1,k2,k3,k4⟩,e⟩:=hu;cases e;refine⟨zo k3 k4,?_⟩;have hqc:q.c<=maxLen:=by
    split at hc
    ·rename_i xs he;obtain⟨q',cs,m1,m2,m3,_⟩:=hR.ent N _ he;rw [hq] at m1;cases m1;exact m3.2
    ·rename_i T sz xs he;obtain⟨q',cur,cs,m1,m2,m3,m4,m5,_⟩:=hR.ent N _ he;rw [hq] at m1;cases m1;exact (m5 fun e=>by rw [e] at hc;cases hc).2
    ·cases hc
   omega
  ·cases hc
 refine⟨A,cap,rfl,hcap.1,hcap.2,fun hne=>?_⟩;cases A with
 | none=>
  rw [h1 rfl] at hne;exact absurd rfl hne
 | some a=>exact⟨a,rfl,trivial,fun j v hj=>by
   have hlt:j<l.length:=by
    rcases zl j l.length with h | h
    ·exact h
    ·rw [List.getElem?_eq_none (by rw [A4i];exact h)] at hj;cases hj
   rw [A2x l j hlt] at hj;cases hj;rw [h2 a rfl j _ (List.getElem?_eq_getElem hlt),List.getD_eq_getElem?_getD,List.getElem?_eq_getElem hlt];rfl⟩
theorem B4k {n:Int} (h:A2U n=true):B3 n:=by
 unfold A2U at h;cases n with
 | ofNat a=>
  have:=ze (show Nat.ble a 9223372036854775807=true from h);show -9223372036854775808<=(a:Int)/\(a:Int)<=9223372036854775807;exact⟨by omega,by omega⟩
 | negSucc a=>
  have:=ze (show Nat.ble a 9223372036854775807=true from h);exact⟨by omega,by omega⟩
theorem T1 {n:Nat} {us:List Value} {u:Value} {v:EV} {σ:Sg} {w:World} (hn:lay.fns n=true) {R:Value->World->Prop} (hR:∀ u w',VR σ v u->Below w.heap.size w w'->R u w') (h:Calls Tryz.prog n us.toArray w (C8 u w)) (hv:VR σ v u):X3 Tryz.prog lay n us w R:=by unfold X3;rw [hn,cond_true];exact⟨h.mono fun e w' he=>⟨u,he.1,hR u w' hv he.2⟩⟩
def L5 (n:Nat):Prop:=lay.fns n=true/\∀ w,Env w->Calls Tryz.prog n #[] w (C8 (.bool true) w)
theorem B6M (done:List Nat) (hd:∀ n∈done,L5 n) (n:Nat) (args:List EV) (H:Hp) (v:EV) (h:prim done n args H=some v) (w0:World) (σ:Sg) (w:World) (us:List Value) (hE:Env w0) (hR:Rep w0 σ H w) (hu:All2 (VR σ) args us) (R:Value->World->Prop) (hK:∀ u w',VR σ v u->Below w.heap.size w w'->R u w'):X3 Tryz.prog lay n us w R:=by
 have hW:Env w:=hE.below hR.below;unfold prim at h;split at h
 ·obtain⟨h1,h2⟩:=B9W h;cases h2;simp only [z7] at h1;obtain⟨⟨⟨h1,h2⟩,h3⟩,h4⟩:=h1;obtain⟨e1,i1,b1,c1⟩:=A3O h1;obtain⟨e2,i2,b2,c2⟩:=A3O h2;obtain⟨e3,i3,b3,c3⟩:=A3O h3;obtain⟨e4,i4,b4,c4⟩:=A3O h4;obtain⟨u,u',rfl,hu1,hu2⟩:=hu.two;cases hu1;cases hu2;exact T1 (by kernel_rfl) hK (A6x i1 i2 i3 i4 ⟨b1,c1⟩ ⟨b2,c2⟩ ⟨b3,c3⟩ ⟨b4,c4⟩ w) rfl
 ·obtain⟨h1,h2⟩:=B9W h;cases h2;obtain⟨h1,h2⟩:=Bool.and_eq_true_iff.1 h1;obtain⟨e1,i1,b1,c1⟩:=A3O h1;obtain⟨e2,i2,b2,c2⟩:=A3O h2;obtain⟨u,rfl,hu1⟩:=hu.one;have hc:=A1k (z:=(und _,und _)) ⟨⟨b1,c1⟩,⟨b2,c2⟩⟩ w;rw [<-e1,<-e2] at hc;cases hu1;exact T1 (by kernel_rfl) hK hc rfl
 ·cases h;obtain⟨u,rfl,hu1⟩:=hu.one;cases hu1;exact T1 (by kernel_rfl) hK (A1m _ w) ⟨[.complex .f64 _ _,.bool _],⟨M4 _,M4 _,trivial⟩,rfl⟩
 ·split at h
  ·rename_i l hl;obtain⟨h1,h2⟩:=B9W h;cases h2;obtain⟨u,rfl,hu1⟩:=hu.one;obtain⟨A,cap,rfl,hrow⟩:=B7i hl h1 hR hu1;exact T1 (by kernel_rfl) hK (A1j rfl (zo hrow.1 hrow.2.1) w hrow) rfl
  ·cases h
 ·obtain⟨h1,h2⟩:=B9W h;cases h2;obtain⟨u,rfl,hu1⟩:=hu.one;cases hu1;exact T1 (by kernel_rfl) hK (A1L _ (B4k h1) w hW.tab) rfl
 ·obtain⟨h1,h2⟩:=B9W h;cases h2;obtain⟨u,u',rfl,hu1,hu2⟩:=hu.two;cases hu1;cases hu2;exact T1 (by kernel_rfl) hK (A6A _ (B4k h1) w hW.tab) rfl
 ·rename_i t;obtain⟨h1,h2⟩:=B9W h;split at h2
  ·rename_i n hn;cases h2
   match us,hu with
   | [_,_,_],⟨h3,h4,h5,_⟩=>
    cases h3;cases h4;cases h5;have:=A7B t.data.toList (by have:=ze h1;omega) n hn w;exact T1 (by kernel_rfl) hK this ⟨[.int .i64 n,.nilIface],⟨M4 _,M4 _,trivial⟩,rfl⟩
  ·cases h2
 ·cases h;obtain⟨u,u',rfl,hu1,hu2⟩:=hu.two;cases hu1;cases hu2;exact T1 (by kernel_rfl) hK ((Tryz.strings_IndexByte _ _ w).mono fun e w' he=>⟨he.1,by rw [he.2];exact Below.refl _ _⟩) rfl
 ·cases h;obtain⟨u,rfl,hu1⟩:=hu.one;unfold X3;rw [show lay.fns 284=false by kernel_rfl,cond_false];exact⟨⟨u,w,A0y u w,hK u w hu1 (Below.refl _ _)⟩⟩
 ·obtain⟨h1,h2⟩:=B9W h;cases h2;rw [A6j] at h1;have hin:=List.contains_iff_mem.1 h1;have:=hu.none;subst this;exact T1 (hd _ hin).1 hK ((hd _ hin).2 w hW) rfl
 ·cases h
theorem B6N {done:List Nat} (hd:∀ n∈done,L5 n):MachOk (B15 done) Env:=⟨lay_ok,by kernel_rfl,B6M done hd⟩
theorem T2 {done:List Nat} (hd:∀ n∈done,L5 n) {n fuel:Nat} (hn:lay.fns n=true) (h:A88 (B15 done) fuel n [] ⟨.e,0⟩ T8=true):L5 n:=⟨hn,fun w hw=>B4D (B6N hd) hn h hw⟩
end Go.Proofs.YtefdfaeieekioaaGreatDoor
end
namespace Go.Proofs.YtefdfaeieekioaaGreatDoor
open Go.Vc Go.Vx Go.RowKit
theorem J0:∀ n∈([]:List Nat),L5 n:=fun n h=>by cases h
theorem C4H {l:List Nat} {n:Nat} (h:L5 n) (k:∀ n∈l,L5 n):∀ m∈n::l,L5 m:=fun m hm=>by
 cases hm with
 | head=>exact h
 | tail _ hm=>exact k m hm
theorem B9P:A88 (B15 []) 50 298 [] ⟨.e,0⟩ T8=true:=by kernel_rfl
theorem B6O:L5 298:=T2 J0 (by kernel_rfl) B9P
theorem B9Q:A88 (B15 [298]) 50 243 [] ⟨.e,0⟩ T8=true:=by kernel_rfl
theorem B8e:L5 243:=T2 (C4H B6O J0) (by kernel_rfl) B9Q
theorem B9R:A88 (B15 [243,298]) 50 141 [] ⟨.e,0⟩ T8=true:=by kernel_rfl
theorem B7j:L5 141:=T2 (C4H B8e (C4H B6O J0)) (by kernel_rfl) B9R
theorem B9S:A88 (B15 [298]) 50 249 [] ⟨.e,0⟩ T8=true:=by kernel_rfl
theorem B8f:L5 249:=T2 (C4H B6O J0) (by kernel_rfl) B9S
theorem B9T:A88 (B15 []) 50 142 [] ⟨.e,0⟩ T8=true:=by kernel_rfl
theorem B8g:L5 142:=T2 J0 (by kernel_rfl) B9T
theorem B9U:A88 (B15 [249,141]) 50 152 [] ⟨.e,0⟩ T8=true:=by kernel_rfl
theorem B8h:L5 152:=T2 (C4H B8f (C4H B7j J0)) (by kernel_rfl) B9U
theorem B8i:A88 (B15 [141]) 50 43 [] ⟨.e,0⟩ T8=true:=by kernel_rfl
theorem B7k:L5 43:=T2 (C4H B7j J0) (by kernel_rfl) B8i
theorem B8j:A88 (B15 [152,142]) 50 44 [] ⟨.e,0⟩ T8=true:=by kernel_rfl
theorem B7l:L5 44:=T2 (C4H B8h (C4H B8g J0)) (by kernel_rfl) B8j
theorem B8k:A88 (B15 [43,44]) 50 15 [] ⟨.e,0⟩ T8=true:=by kernel_rfl
theorem B7m:L5 15:=T2 (C4H B7k (C4H B7l J0)) (by kernel_rfl) B8k
theorem A6n (w:World) (hw:Env w):Calls Tryz.prog 15 #[] w (C8 (.bool true) w):=B7m.2 w hw
end Go.Proofs.YtefdfaeieekioaaGreatDoor
namespace Go.Proofs.YtefdfaeieekioaaGreatDoor
open Go.Vc Go.RowKit Go.Fl Go.ChangeShapes Go.WideShapes Go.ChangeAt
theorem B8m {j:Nat} (h:j<=100):S6 (4294967296+((j:Int)+1))=1:=by unfold S6;rw [y7 (by omega)];omega
def R2 (ep:Int):Ros:=⟨ep,[1,2],0⟩
theorem B9p {ep:Int} (h:1<=ep/\ep<=E3):A6R (R2 ep)=true:=
 Q4.2 ⟨h,by show 1<=2/\2<=5;decide,(by show ∀ n∈[(1:Int),2],1<=n/\n<=5;decide),(by show [(1:Int),2].Nodup;decide),.inl rfl⟩
theorem A6 {g:Lg} {now:Int} {L:Lk}:C4C g now L:=fun L' _ _ hH hd _ Sx w hlt he hK=>A2O g L' hH hd now Sx w hlt he hK
theorem B9o {L:Lk}:∀ (l:List (Int × Res)),(∀ p∈l,S6 p.1≠L.id)->B8 L l=(L,l.map fun p=>A1G L (B5i p.1 p.2))
 | [],_=>rfl
 | (q,r)::t,h=>by have h1:toldL L q r=(L,[A1G L (B5i q r)]):=y7 (h (q,r) (zu ..));show ((B8 (toldL L q r).1 t).1,(toldL L q r).2++(B8 (toldL L q r).1 t).2)=_;rw [h1,B9o t fun p hp=>h p (zt _ hp)];rfl
end Go.Proofs.YtefdfaeieekioaaGreatDoor
