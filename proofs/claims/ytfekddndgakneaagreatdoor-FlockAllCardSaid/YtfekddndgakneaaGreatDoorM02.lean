import Derived.Test.YtfekddndgakneaaGreatDoorM01
import Derived.Lib.AppendZerosOnto
import Derived.Still
import Derived.Test.YtfekddndgakneaaGreatDoorProg
import Ieee.Arith
import GoSem.Core.Float
set_option maxRecDepth 100000
set_option maxHeartbeats 40000000
set_option linter.unusedVariables false
set_option linter.unusedSimpArgs false
section
namespace Go.Vc
open Go Go.RowKit
section
variable {S0 S:Nat->Prop} {w0 w w':World} {l:List LB} {e sz:Nat} {A:Option Addr} {n cap:Nat} {xs:List Value} {n0:Nat}
theorem Locs.turned {S:Nat->Prop} {n0:Nat} {w w':World}:∀ {l:List LB} {k g T:Nat} {cs cs':List Value},Locs S n0 w l->l[k]?=some (g,T,cs)->Blk w' g T cs'->(∀ b,b<w.heap.size->b≠g->w'.heap[b]?=w.heap[b]?)->Locs S n0 w' (J6 l k cs')
 | (g',T',c)::r,k,g,T,cs,cs',⟨h1,h2,h3,h4,h5⟩,hk,hb,ho=>by
  cases k with
  | zero=>
   simp at hk
   obtain⟨rfl,rfl,rfl⟩:=hk
   exact⟨h1,h2,hb,h4,h5.mono (fun x hx=>ho _ (h5.lt x hx) (h4 x hx)) (fun _ _ h=>h)⟩
  | succ k=>
   have hk':r[k]?=some (g,T,cs):=by simpa using hk
   have hne:g≠g':=h4 _ (List.mem_of_getElem? hk')
   refine⟨h1,h2,h3.of_eq (ho _ h3.lt (Ne.symm hne)),fun x hx=>?_,h5.turned hk' hb ho⟩
   obtain⟨y,hy,e⟩:=O5 hx
   rw [<-e];exact h4 y hy
theorem Ctx.turned (hc:Ctx S0 w0 S w l) (k:Nat) {g T:Nat} {cs cs':List Value} (h:l[k]?=some (g,T,cs)) (hg:w.grownBy w' (some g)) (hB:Blk w' g T cs'):
  Ctx S0 w0 S w' (J6 l k cs')/\Fut S w S w':=by
 obtain⟨hn,hge⟩:=hc.locs.notS h
 refine⟨⟨hc.below.grown hg hc.below.size (fun k hk=>by cases hk;exact hge),hc.sub,hc.new,fun b hb=>Nat.lt_of_lt_of_le (hc.lt b hb) hg.size,hc.locs.turned h hB (fun b hb hne=>hg.block b hb (fun e=>hne (Option.some.inj e)))⟩,
  ⟨fun _ h=>h,fun b hb=>hg.block b (hc.lt b hb) (fun e=>hn ((Option.some.inj e)▸hb))⟩⟩
theorem Ctx.fresh (hc:Ctx S0 w0 S w l) (hb:Below w.heap.size w w') (ho:w'.ownsRow w.heap.size e sz (.slice A n cap) n xs):
  Ctx S0 w0 S w' l/\Fut S w S w'/\Own S w0.heap.size w' l e sz A n cap xs:=by
 obtain⟨h1,h2⟩:=hc.quiet hb
 refine⟨h1,h2,?_,fun a ha=>?_⟩
 ·refine⟨ho.1,?_⟩
  rcases ho.2 with h | ⟨g,cp,cur,h3,h4,h5⟩
  ·exact .inl h
  ·exact .inr ⟨g,cp,cur,h3,Nat.le_trans hc.below.size h4,h5⟩
 ·subst ha
  have hlt:=(ho.lt a.block rfl).1
  exact⟨fun hs=>by have:=hc.lt _ hs;omega,fun x hx e1=>by have:=hc.locs.lt x hx;omega⟩
theorem Own.opened (h:Own S w0.heap.size w l e sz A n cap xs) (hc:Ctx S0 w0 S w l) {a:Addr} (hA:A=some a):
  ∃ g cur,A=some ⟨g,0,none⟩/\Ctx S0 w0 S w ((g,e,cur)::l)/\cur.length=cap*sz/\cur.take (n*sz)=xs/\n<=cap/\cap<=maxLen:=by
 subst hA
 rcases h.row.2 with ⟨h3,_⟩ | ⟨g,cp,cur,h3,h4,h5,h6,h7,h8,h9⟩
 ·cases h3
 ·cases h3
  refine⟨g,cur.toList,rfl,⟨hc.below,hc.sub,hc.new,hc.lt,?_⟩,by simpa using h8,h9,h6,h7⟩
  refine⟨h4,(h.out _ rfl).1,?_,(h.out _ rfl).2,hc.locs⟩
  unfold Blk
  simpa using h5
theorem Ctx.closed {g:Nat} {cur:List Value} (hc:Ctx S0 w0 S w ((g,e,cur)::l)) (sz n cap:Nat) (h1:n<=cap) (h2:cap<=maxLen) (h3:cur.length=cap*sz):
  Ctx S0 w0 S w l/\Own S w0.heap.size w l e sz (some ⟨g,0,none⟩) n cap (cur.take (n*sz)):=by
 obtain⟨k1,k2,k3,k4,k5⟩:=hc.locs
 refine⟨hc.drop,⟨?_,.inr ⟨g,cap,cur.toArray,rfl,k1,k3,h1,h2,by simpa using h3,by simp⟩⟩,fun a ha=>?_⟩
 ·rw [List.length_take,h3]
  exact Nat.min_eq_left (Nat.mul_le_mul_right _ h1)
 ·cases ha
  exact⟨k2,k4⟩
theorem Own.made (hc:Ctx S0 w0 S w l) {cs:List Value} {g:Nat} (hN:New w cs e g w') (sz n:Nat) (h:cs.length=n*sz) (hn:n<=maxLen):Ctx S0 w0 S w' l/\Fut S w S w'/\Own S w0.heap.size w' l e sz (some ⟨g,0,none⟩) n n cs:=by
 obtain⟨h1,h2⟩:=hc.loc hN
 obtain⟨h3,h4⟩:=h1.closed sz n n (Nat.le_refl _) hn h
 refine⟨h3,h2,?_⟩
 rw [List.take_of_length_le (Nat.le_of_eq h)] at h4
 exact h4
theorem Own.none' (h:Own S n0 w l e sz A n cap xs) (hA:A=none):n=0/\cap=0/\xs=[]:=by
 subst hA
 rcases h.row.2 with ⟨h3,h4⟩ | ⟨g,cp,cur,h3,_⟩
 ·cases h3
  have:=h.row.1
  rw [Nat.zero_mul] at this
  exact⟨rfl,rfl,List.eq_nil_of_length_eq_zero this⟩
 ·cases h3
end
theorem Keeps.look {w x:World} (h:Keeps (fun b=>b<w.heap.size) w x) {a:Addr} {v:Value} (hc:w.cell? a=some v):x.cell? a=some v:=h.at hc (World.block_lt_of_cell? w a hc)
theorem Keeps.looks {w x:World} (h:Keeps (fun b=>b<w.heap.size) w x) {a:Addr}:∀ (cs:List Value) (i:Nat),Go.Vc.cellsAt w a cs i->Go.Vc.cellsAt x a cs i
 | [],_,_=>trivial
 | v::r,i,hc=>⟨h.look hc.1,h.looks r (i+1) hc.2⟩
theorem A01 (g cap k:Nat) (j:Int) (i:Nat) (hj:j=i) (hne:cap≠i):(if (cap:Int)=j then some (⟨g,0,none⟩:Addr) else (some (⟨g,0,none⟩:Addr)).map (·.add (j.toNat*k)))=some ⟨g,i*k,none⟩:=by
 rw [if_neg (by omega),Option.map_some,Addr.add_lit,Nat.zero_add,hj,Int.toNat_natCast]
theorem Row.front {S:Nat->Prop} {w:World} {A:Option Addr} {n cap k:Nat} {xs:List Value} (hR:Row S w A n cap xs) (sz:Nat) (hk:k<=n):Row S w A k cap (xs.take (k*sz)):=
 ⟨Nat.le_trans hk hR.1,hR.2.1,fun hx=>by
  obtain⟨ad,e,hs,hc⟩:=hR.2.2 (fun h=>hx (by rw [h];simp))
  refine⟨ad,e,hs,fun j u hu=>?_⟩
  rw [List.getElem?_take] at hu
  split at hu
  ·exact hc j u hu
  ·cases hu⟩
theorem N2 (A:Option Addr) (cap sz:Nat):(if (cap:Int)=0 then A else A.map (·.add ((0:Int).toNat*sz)))=A:=by
 have e:∀ a:Addr,a.add ((0:Int).toNat*sz)=a:=fun a=>by unfold Addr.add;simp
 split
 ·rfl
 ·cases A with
  | none=>rfl
  | some a=>rw [Option.map_some,e]
theorem Row.back {S:Nat->Prop} {w:World} {A:Option Addr} {n cap:Nat} {xs:List Value} (hR:Row S w A n cap xs) (sz:Nat) (hx:xs.length=n*sz) (i:Nat) (j:Int) (hj:j=i) (hi:i<=n):
  Row S w (if (cap:Int)=j then A else A.map (·.add (j.toNat*sz))) (n-i) (cap-i) (xs.drop (i*sz)):=by
 have hjn:j.toNat=i:=by omega
 refine⟨Nat.sub_le_sub_right hR.1 i,Nat.le_trans (Nat.sub_le _ _) hR.2.1,fun h0=>?_⟩
 have hlt:i*sz<xs.length:=by
  rcases Nat.lt_or_ge (i*sz) xs.length with h | h
  ·exact h
  ·rw [List.drop_of_length_le h] at h0;exact absurd rfl h0
 have hin:i<n:=by
  rcases Nat.lt_or_ge i n with h | h
  ·exact h
  ·have:=Nat.mul_le_mul_right sz h
   omega
 have hcap:=hR.1
 rw [if_neg (by omega),hjn]
 obtain⟨ad,e,hs,hc⟩:=hR.2.2 (fun h=>by subst h;simp at hlt)
 subst e
 refine⟨ad.add (i*sz),rfl,by rw [P6];exact hs,fun k u hu=>?_⟩
 rw [add_add]
 rw [List.getElem?_drop] at hu
 exact hc _ _ hu
theorem H5:∀ (xs cs:List Value) (o:Nat),o+xs.length<=cs.length->D3 cs o xs=cs.take o++xs++cs.drop (o+xs.length)
 | [],cs,o,h=>by simp [D3]
 | x::r,cs,o,h=>by
  simp only [List.length_cons] at h
  rw [D3,H5 r (cs.set o x) (o+1) (by simp;omega),List.take_set,List.drop_set,if_pos (by omega),List.length_cons,show o+1+r.length=o+(r.length+1) by omega]
  have e:(cs.take (o+1)).set o x=cs.take o++[x]:=by
   have hl:o<cs.length:=by omega
   rw [List.take_add_one,List.getElem?_eq_getElem hl]
   simp only [Option.toList_some]
   rw [List.set_append_right _ _ (by rw [List.length_take];omega)]
   have:o-(cs.take o).length=0:=by rw [List.length_take];omega
   rw [this]
   rfl
  rw [e]
  simp
theorem D4:∀ (xs cs:List Value) (o:Nat),(D3 cs o xs).length=cs.length
 | [],_,_=>rfl
 | x::r,cs,o=>by rw [D3,D4 r];simp
section
variable {P:Program} {w:World} {e sz bytes:Nat} {K:Value->World->Prop} {z:Value}
theorem A2p {S0 S:Nat->Prop} {w0:World} {l:List LB} {t T g n cap m c:Nat} {cs:Array Bool} {cur ys:List Value} (ht:P.underlying t=some (.slice e)) (hi:(P.info? e).map (fun i=>(i.zero,i.size,i.bytes))=some (some z,sz,bytes))
  (hc:Ctx S0 w0 S w ((g,e,cur)::l)) (hcur:cur.length=cap*sz) (hroom:n+m<=cap) {ad:Addr} (hl:ys.length=m*sz) (hy:cellsAt w ad ys 0) (h1:G9 ys=true)
  {x y:Value} (ex:x=.slice (some ⟨g,0,none⟩) n cap) (ey:y=.slice (some ad) m c)
  (k:∀ w',Ctx S0 w0 S w' ((g,e,cur.take (n*sz)++ys++cur.drop ((n+m)*sz))::l)->Fut S w S w'->K (.slice (some ⟨g,0,none⟩) (n+m) cap) w'):
  ∃ v w',(builtin .append #[t,t] T cs #[x,y]).run P w=.ok (.value v) w'/\K v w':=by
 subst ex
 subst ey
 obtain⟨i,h2,h3,h4,h5⟩:=info_parts hi
 subst h4
 have hB:=hc.blk 0 rfl
 have cellsOf:∀ (ys:List Value) (i:Nat),cellsAt w ad ys i->∀ j u,ys[j]?=some u->w.cell? (ad.add (i+j))=some u:=by
  intro ys
  induction ys with
  | nil=>intro i _ j u h;cases h
  | cons v r ih=>
   intro i h j u hu
   cases j with
   | zero=>cases hu;exact h.1
   | succ j=>rw [show i+(j+1)=i+1+j from by omega];exact ih (i+1) h.2 j u hu
 have hfit:n*i.size+ys.length<=cur.length:=by rw [hl,hcur,<-Nat.add_mul];exact Nat.mul_le_mul_right _ hroom
 have hr:=run_append_room (P:=P) w t T e i ht h2 g n cap cur.toArray hB ad m c ys hl (fun j u hu=>by have:=cellsOf ys 0 hy j u hu;rwa [Nat.zero_add] at this) (M6 h1) hroom (by simpa using hfit)
 have hlen:n*i.size+ys.length=(n+m)*i.size:=by rw [hl,Nat.add_mul]
 rw [hlen] at hr
 have hB':Blk (w.setRow g (cur.toArray.toList.take (n*i.size)++ys++cur.toArray.toList.drop ((n+m)*i.size)).toArray) g e (cur.take (n*i.size)++ys++cur.drop ((n+m)*i.size)):=by
  have:=setRow_heap w g cur.toArray (cur.toArray.toList.take (n*i.size)++ys++cur.toArray.toList.drop ((n+m)*i.size)).toArray e (0,0) hB
  exact this
 have hg:w.grownBy (w.setRow g (cur.toArray.toList.take (n*i.size)++ys++cur.toArray.toList.drop ((n+m)*i.size)).toArray) (some g):=
  ⟨rfl,rfl,rfl,by simp,fun k _ hk=>setRow_other w g k _ (fun e=>hk (by simp [e]))⟩
 obtain⟨k1,k2⟩:=hc.turned 0 rfl hg hB'
 refine⟨_,_,?_,k _ k1 k2⟩
 show (do pure (Next.value (<-Builtin.append_ #[t,t] T #[.slice (some ⟨g,0,none⟩) n cap,.slice (some ad) m c])):Sem Next).run P w=_
 simp only [Sem.run_bind,hr,Result.andThen_ok,Sem.run_pure]
theorem A02 {S0 S S':Nat->Prop} {w0:World} {l:List LB} {t T n cap m c:Nat} {A B:Option Addr} {cs:Array Bool} {xs ys:List Value} (ht:P.underlying t=some (.slice e)) (hi:(P.info? e).map (fun i=>(i.zero,i.size,i.bytes))=some (some z,sz,bytes))
  (hzs:z.cells.size=sz) (hsz:0<sz) (hc:Ctx S0 w0 S w l) (ho:Own S w0.heap.size w l e sz A n cap xs) (hR:Row S' w B m c ys) (hl:ys.length=m*sz) (h1:G9 ys=true) (h63:n+m<=34359738368) (hby:bytes<=4096)
  (k:∀ A' cap' w',Ctx S0 w0 S w' l->Fut S w S w'->Own S w0.heap.size w' l e sz A' (n+m) cap' (xs++ys)->w.grownBy w' (Value.slice A n cap).ownBlock->K (.slice A' (n+m) cap') w'):
  ∃ v w',(builtin .append #[t,t] T cs #[.slice A n cap,.slice B m c]).run P w=.ok (.value v) w'/\K v w':=by
 cases B with
 | some ad=>
  refine X6 ht hi hzs hsz hc ho hl ?_ h1 h63 hby k
  rcases ys with _ | ⟨y,r⟩
  ·trivial
  ·obtain⟨ad',e1,hcell⟩:=hR.get (i:=0) (by simp)
   cases e1
   have:=A0E hcell 0 (y::r) 0 (fun j u hu=>by simpa using hu)
   have e0:ad.add 0=ad:=by unfold Addr.add;simp
   rw [e0] at this
   exact this
 | none=>
  have hys:ys=[]:=by
   rcases ys with _ | ⟨y,r⟩
   ·rfl
   ·obtain⟨ad',e1,_⟩:=hR.get (i:=0) (by simp)
    cases e1
  subst hys
  have hm:m=0:=by
   rcases Nat.eq_zero_or_pos m with h | h
   ·exact h
   ·have:=Nat.mul_pos h hsz
    rw [<-hl] at this
    simp at this
  subst hm
  obtain⟨i,h2,h3,h4,h5⟩:=info_parts hi
  obtain⟨f1,f2⟩:=ho.fit
  have hr:(Builtin.append_ #[t,t] T #[.slice A n cap,.slice none 0 c]).run P w=.ok (.slice A n cap) w:=by
   cases A<;>simp [Builtin.append_,run_underlying ht,sizeOf,typeInfo,h2,Builtin.lenOf,Builtin.firstCells,f1,storeCells]
  refine⟨_,_,?_,k A cap w hc (Fut.refl _ _) (by rw [List.append_nil];exact ho) ⟨rfl,rfl,rfl,Nat.le_refl _,fun _ _ _=>rfl⟩⟩
  show (do pure (Next.value (<-Builtin.append_ #[t,t] T #[.slice A n cap,.slice none 0 c])):Sem Next).run P w=_
  simp only [Sem.run_bind,hr,Result.andThen_ok,Sem.run_pure]
  rfl
theorem B3a {S0 S S':Nat->Prop} {w0:World} {l:List LB} {t T n cap m c:Nat} {A B:Option Addr} {cs:Array Bool} {xs ys:List Value} (ht:P.underlying t=some (.slice e)) (hi:(P.info? e).map (fun i=>(i.zero,i.size,i.bytes))=some (some z,sz,bytes))
  (hzs:z.cells.size=sz) (hsz:0<sz) (hc:Ctx S0 w0 S w l) (ho:Own S w0.heap.size w l e sz A n cap xs) (hR:Row S' w B m c ys) (hl:ys.length=m*sz) (h1:G9 ys=true) (h63:n+m<=34359738368) (hby:bytes<=4096)
  {x y:Value} (ex:x=.slice A n cap) (ey:y=.slice B m c)
  (k:∀ A' cap' w',Ctx S0 w0 S w' l->Fut S w S w'->Own S w0.heap.size w' l e sz A' (n+m) cap' (xs++ys)->w.grownBy w' (Value.slice A n cap).ownBlock->K (.slice A' (n+m) cap') w'):
  ∃ v w',(builtin .append #[t,t] T cs #[x,y]).run P w=.ok (.value v) w'/\K v w':=by
 subst ex
 subst ey
 exact A02 ht hi hzs hsz hc ho hR hl h1 h63 hby k
theorem A6D {S0 S:Nat->Prop} {w0:World} {l:List LB} {t tn T g n cap k:Nat} {kn kq:IntKind} {cs:Array Bool} {cur:List Value} (ht:P.underlying t=some (.slice e)) (htn:P.underlying tn=some (.int kn)) (hi:(P.info? e).map (fun i=>(i.zero,i.size,i.bytes))=some (some z,sz,bytes))
  (hzs:z.cells.size=sz) (hsz:0<sz) (hc:Ctx S0 w0 S w ((g,e,cur)::l)) (hcur:cur.length=cap*sz) (hn:n<=cap) (h0:0<k) (hg:cap<n+k) (hk:n+k<=34359738368) (hby:bytes<=4096)
  {x y:Value} (ex:x=.slice (some ⟨g,0,none⟩) n cap) (ey:y=.int kq k)
  (K':∀ g2 cap2 cur2 w',Ctx S0 w0 S w' ((g2,e,cur2)::(g,e,cur)::l)->Fut S w S w'->cur2.length=cap2*sz->n+k<=cap2->cap2<=maxLen->cur2.take (n*sz)=cur.take (n*sz)->K (.slice (some ⟨g2,0,none⟩) (n+k) cap2) w'):
  ∃ v w',(builtin .append #[t,tn] T cs #[x,y]).run P w=.ok (.value v) w'/\K v w':=by
 subst ex
 subst ey
 obtain⟨i,h2,h3,h4,h5⟩:=info_parts hi
 subst h4
 subst h5
 have hle:n*i.size<=cur.length:=by rw [hcur];exact Nat.mul_le_mul_right _ hn
 have hcd:=hc.drew
 have hB:=hcd.blk 0 rfl
 have hold:=run_firstCells_some (P:=P) w.drew i.size n ⟨g,0,none⟩ n cap (cur.take (n*i.size)) (by rw [List.length_take];exact Nat.min_eq_left hle) (fun j u hu=>by
  rw [List.getElem?_take] at hu
  split at hu
  ·rw [Addr.add_lit,Nat.zero_add,hB.cell j];exact hu
  ·cases hu)
 have hbytes:(n+k)*i.bytes<=140737488355328:=Nat.le_trans (Nat.mul_le_mul hk hby) (by decide)
 have hr:=Lib.run_append_grow_zeros (P:=P) w t tn T e i z kq kn ht htn h2 h3 (some ⟨g,0,none⟩) n cap (cur.take (n*i.size)) hold k h0 hsz hg (by omega) (Nat.le_trans (Nat.mul_le_mul_right _ (by omega:k<=n+k)) (Nat.le_trans hbytes (by decide))) (growslice_fits (by omega) hbytes)
 have hge:=grownCap_ge w (n+k) cap e
 have hmx:=grownCap_le_maxLen w (n+k) cap e (by simp only [maxLen];omega)
 have hloc:=hcd.loc (cs:=((cur.take (n*i.size)).toArray++Builtin.zeroCells z.cells k++Builtin.zeroCells z.cells (grownCap w (n+k) cap e-(n+k))).toList) (T:=e) (g:=w.heap.size)
  (w':=w.drew.alloc (.cells ((cur.take (n*i.size)).toArray++Builtin.zeroCells z.cells k++Builtin.zeroCells z.cells (grownCap w (n+k) cap e-(n+k))) e)) ⟨rfl,by rw [Array.toArray_toList]⟩
 refine⟨_,_,?_,K' _ (grownCap w (n+k) cap e) _ _ hloc.1 hloc.2 ?_ hge hmx ?_⟩
 ·show (do pure (Next.value (<-Builtin.append_ #[t,tn] T #[.slice (some ⟨g,0,none⟩) n cap,.int kq k])):Sem Next).run P w=_
  simp only [Sem.run_bind,hr,Result.andThen_ok,Sem.run_pure]
 ·rw [Array.length_toList,Array.size_append,Array.size_append,size_zeroCells,size_zeroCells,hzs,List.size_toArray,List.length_take,Nat.min_eq_left hle,<-Nat.add_mul,<-Nat.add_mul]
  congr 1
  omega
 ·have e1:(cur.take (n*i.size)).length=n*i.size:=by rw [List.length_take];exact Nat.min_eq_left hle
  rw [Array.toList_append,Array.toList_append,List.append_assoc,List.take_left' (by simpa using e1)]
theorem B0q {P:Program} {t T e:Nat} {cs:Array Bool} (ht:P.underlying t=some (.slice e)) (A:Option Addr) (n c:Nat) (w:World):(builtin .cap #[t] T cs #[.slice A n c]).run P w=.ok (.value (.int .i64 c)) w:=by
 show (do pure (Next.value (<-Builtin.cap_ #[t] T #[.slice A n c])):Sem Next).run P w=_
 simp [Builtin.cap_,run_underlying ht,goInt]
theorem U1 {t T:Nat} {cs:Array Bool} (ht:P.underlying t=some (.slice e)) (hi:(P.info? e).map (fun i=>(i.zero,i.size,i.bytes))=some (some z,sz,bytes)) {da sa:Addr} {dn dc sn sc:Nat} {xs:List Value}
  (hl:xs.length=Nat.min sn dn*sz) (hx:cellsAt w sa xs 0) (hm:G5 w da xs 0) {x y:Value} (ex:x=.slice (some da) dn dc) (ey:y=.slice (some sa) sn sc) (k:∀ w',E2 w da xs w'->K (.int .i64 (Nat.min sn dn:Nat)) w'):
  ∃ v w',(builtin .copy #[t,t] T cs #[x,y]).run P w=.ok (.value v) w'/\K v w':=by
 subst ex
 subst ey
 obtain⟨i,h2,h3,h4,h5⟩:=info_parts hi
 subst h4
 refine⟨_,_,?_,k _ rfl⟩
 show (do pure (Next.value (<-Builtin.copy_ #[t,t] T #[.slice (some da) dn dc,.slice (some sa) sn sc])):Sem Next).run P w=_
 have cellsOf:∀ (ys:List Value) (i:Nat),cellsAt w sa ys i->∀ j u,ys[j]?=some u->w.cell? (sa.add (i+j))=some u:=by
  intro ys
  induction ys with
  | nil=>intro i _ j u h;cases h
  | cons v r ih=>
   intro i h j u hu
   cases j with
   | zero=>cases hu;exact h.1
   | succ j=>rw [show i+(j+1)=i+1+j from by omega];exact ih (i+1) h.2 j u hu
 have hf:=run_firstCells_some (P:=P) w i.size (Nat.min sn dn) sa sn sc xs hl (fun j u hu=>by have:=cellsOf xs 0 hx j u hu;rwa [Nat.zero_add] at this)
 have hst:=P0 (P:=P) xs w 0 hm
 simp [Builtin.copy_,run_underlying ht,Builtin.lenOf,sizeOf,typeInfo,h2,hf,hst,goInt]
theorem A0F {t T:Nat} {cs:Array Bool} (ht:P.underlying t=some (.slice e)) (hz:∀ w,(zeroValue e).run P w=.ok z w) {a:Addr} {n c:Nat} (hn:0<n) {x:Value} (ex:x=.slice (some a) n c) {zs:List Value} (ez:(Builtin.zeroCells z.cells n).toList=zs) (hm:G5 w a zs 0) (k:∀ w',E2 w a zs w'->K (.tuple #[]) w'):
  ∃ v w',(builtin .clear #[t] T cs #[x]).run P w=.ok (.value v) w'/\K v w':=by
 subst ex
 subst ez
 refine⟨_,_,?_,k _ rfl⟩
 show (do pure (Next.value (<-Builtin.clear_ #[t] T #[.slice (some a) n c])):Sem Next).run P w=_
 have hst:=P0 (P:=P) (Builtin.zeroCells z.cells n).toList w 0 hm
 cases n with
 | zero=>exact absurd hn (Nat.lt_irrefl _)
 | succ n=>simp [Builtin.clear_,run_underlying ht,hz,hst]
end
end Go.Vc
end
section
namespace Go.Vc
open Go Go.RowKit
theorem cellsAt_later {w w':World} (hb:Below w.heap.size w w') {a:Addr}:∀ (cs:List Value) (i:Nat),cellsAt w a cs i->cellsAt w' a cs i
 | [],_,_=>trivial
 | v::r,i,h=>⟨cell_later hb h.1,cellsAt_later hb r (i+1) h.2⟩
structure OR where
 e:Nat
 sz:Nat
 A:Option Addr
 n:Nat
 cap:Nat
 xs:List Value
def Owns (S:Nat->Prop) (n0:Nat) (w:World) (l:List LB):List OR->Prop
 | []=>True
 | o::r=>Own S n0 w l o.e o.sz o.A o.n o.cap o.xs/\(∀ p∈r,∀ a b,o.A=some a->p.A=some b->a.block≠b.block)/\Owns S n0 w l r
abbrev Kn:=(Nat->Prop)->World->Prop
def Stab (R:Kn):Prop:=∀ S w S' w',R S w->Fut S w S' w'->R S' w'
theorem Stab.and {R X:Kn} (h:Stab R) (k:Stab X):Stab (fun S w=>R S w/\X S w):=fun _ _ _ _ hx f=>⟨h _ _ _ _ hx.1 f,k _ _ _ _ hx.2 f⟩
theorem Stab.true:Stab (fun _ _=>True):=fun _ _ _ _ _ _=>trivial
structure CtxF (S0:Nat->Prop) (w0:World) (S:Nat->Prop) (w:World) (l:List LB) (os:List OR) (R:Kn):Prop where
 ctx:Ctx S0 w0 S w l
 own:Owns S w0.heap.size w l os
 row:R S w
 stab:Stab R
section
variable {S0 S S':Nat->Prop} {w0 w w':World} {l l':List LB} {os:List OR} {R:Kn} {n0:Nat}
theorem Owns.step:∀ {os:List OR},Owns S n0 w l os->(∀ o∈os,∀ a,o.A=some a->w'.heap[a.block]?=w.heap[a.block]?/\¬ S' a.block/\∀ x∈l',x.1≠a.block)->Owns S' n0 w' l' os
 | [],_,_=>trivial
 | o::r,⟨h1,h2,h3⟩,hh=>
  ⟨⟨h1.kept fun a ha=>(hh o (List.mem_cons_self ..) a ha).1,fun a ha=>(hh o (List.mem_cons_self ..) a ha).2⟩,h2,h3.step fun p hp=>hh p (List.mem_cons_of_mem _ hp)⟩
theorem Owns.mem:∀ {os:List OR},Owns S n0 w l os->∀ o∈os,Own S n0 w l o.e o.sz o.A o.n o.cap o.xs
 | o::r,⟨h1,h2,h3⟩,p,hp=>by
  cases hp with
  | head=>exact h1
  | tail _ h=>exact h3.mem p h
theorem CtxF.below (hc:CtxF S0 w0 S w l os R):Below w0.heap.size w0 w:=hc.ctx.below
theorem CtxF.start (w0:World) (S0:Nat->Prop) (h:∀ b,S0 b->b<w0.heap.size) {R:Kn} (hr:R S0 w0) (hs:Stab R):CtxF S0 w0 S0 w0 [] [] R:=⟨Ctx.start w0 S0 h,trivial,hr,hs⟩
theorem CtxF.loc (hc:CtxF S0 w0 S w l os R) {cs:List Value} {T g:Nat} (hN:New w cs T g w'):CtxF S0 w0 S w' ((g,T,cs)::l) os R/\Fut S w S w':=by
 obtain⟨h1,h2⟩:=hc.ctx.loc hN
 refine⟨⟨h1,hc.own.step fun o ho a ha=>?_,hc.stab _ _ _ _ hc.row h2,hc.stab⟩,h2⟩
 have hO:=hc.own.mem o ho
 refine⟨hN.below.block _ (hO.lt ha).2,(hO.out a ha).1,fun x hx=>?_⟩
 cases hx with
 | head=>have:=(hO.lt ha).2;have:=hN.1;show g≠a.block;omega
 | tail _ hx=>exact (hO.out a ha).2 x hx
theorem CtxF.quiet (hc:CtxF S0 w0 S w l os R) (hb:Below w.heap.size w w'):CtxF S0 w0 S w' l os R/\Fut S w S w':=by
 obtain⟨h1,h2⟩:=hc.ctx.quiet hb
 exact⟨⟨h1,hc.own.step fun o ho a ha=>⟨hb.block _ ((hc.own.mem o ho).lt ha).2,(hc.own.mem o ho).out a ha⟩,hc.stab _ _ _ _ hc.row h2,hc.stab⟩,h2⟩
theorem CtxF.call (hc:CtxF S0 w0 S w l os R) (hb:Below w.heap.size w w'):CtxF S0 w0 (ext S w w') w' l os R/\Fut S w (ext S w w') w':=by
 obtain⟨h1,h2⟩:=hc.ctx.call hb
 refine⟨⟨h1,hc.own.step fun o ho a ha=>⟨hb.block _ ((hc.own.mem o ho).lt ha).2,fun hs=>?_,((hc.own.mem o ho).out a ha).2⟩,hc.stab _ _ _ _ hc.row h2,hc.stab⟩,h2⟩
 rcases hs with hs | hs
 ·exact ((hc.own.mem o ho).out a ha).1 hs
 ·have:=((hc.own.mem o ho).lt ha).2;omega
theorem CtxF.know (hc:CtxF S0 w0 S w l os R) {X:Kn} (h:X S w) (hs:Stab X):CtxF S0 w0 S w l os (fun S w=>R S w/\X S w):=⟨hc.ctx,hc.own,⟨hc.row,h⟩,hc.stab.and hs⟩
theorem CtxF.now (hc:CtxF S0 w0 S w l os R) {X:Kn} (h:R S w->X S w) (hs:Stab X):CtxF S0 w0 S w l os X:=⟨hc.ctx,hc.own,h hc.row,hs⟩
theorem CtxF.blk (hc:CtxF S0 w0 S w l os R) (k:Nat) {g T:Nat} {cs:List Value} (h:l[k]?=some (g,T,cs)):Blk w g T cs:=hc.ctx.blk k h
theorem CtxF.cell (hc:CtxF S0 w0 S w l os R) (k:Nat) {g T:Nat} {cs:List Value} (h:l[k]?=some (g,T,cs)) (i:Nat) {v:Value} (hv:cs[i]?=some v):w.cell? ⟨g,i,none⟩=some v:=hc.ctx.cell k h i hv
theorem CtxF.cells (hc:CtxF S0 w0 S w l os R) (k:Nat) {g T:Nat} {cs:List Value} (h:l[k]?=some (g,T,cs)):Go.Vc.cellsAt w ⟨g,0,none⟩ cs 0:=hc.ctx.cells k h
theorem CtxF.cellsAt (hc:CtxF S0 w0 S w l os R) (k:Nat) {g T:Nat} {cs:List Value} (h:l[k]?=some (g,T,cs)) (o:Nat) (xs:List Value) (hx:(cs.drop o).take xs.length=xs):Go.Vc.cellsAt w ⟨g,o,none⟩ xs 0:=hc.ctx.cellsAt k h o xs hx
theorem CtxF.may (hc:CtxF S0 w0 S w l os R) (k:Nat) {g T:Nat} {cs:List Value} (h:l[k]?=some (g,T,cs)) (o:Nat) (xs:List Value) (hl:o+xs.length<=cs.length) (h1:G9 xs=true):G5 w ⟨g,o,none⟩ xs 0:=hc.ctx.may k h o xs hl h1
theorem CtxF.set (hc:CtxF S0 w0 S w l os R) (k:Nat) {g T:Nat} {cs:List Value} (h:l[k]?=some (g,T,cs)) {o:Nat} {xs:List Value} (hS:E2 w ⟨g,o,none⟩ xs w'):
  CtxF S0 w0 S w' (J6 l k (D3 cs o xs)) os R/\Fut S w S w':=by
 obtain⟨h1,h2⟩:=hc.ctx.set k h hS
 refine⟨⟨h1,hc.own.step fun p hp a ha=>?_,hc.stab _ _ _ _ hc.row h2,hc.stab⟩,h2⟩
 have hO:=(hc.own.mem p hp).set hc.ctx k h hS
 obtain⟨_,k2,_⟩:=V7 o xs w 0 cs (hc.blk k h)
 rw [<-(show w'=_ from hS)] at k2
 exact⟨k2 _ fun e=>((hc.own.mem p hp).out a ha).2 _ (List.mem_of_getElem? h) e.symm,hO.out a ha⟩
theorem CtxF.drop {x:LB} (h:CtxF S0 w0 S w (x::l) os R):CtxF S0 w0 S w l os R:=
 ⟨h.ctx.drop,h.own.step fun o ho a ha=>⟨rfl,((h.own.mem o ho).out a ha).1,fun y hy=>((h.own.mem o ho).out a ha).2 y (List.mem_cons_of_mem _ hy)⟩,h.row,h.stab⟩
theorem CtxF.drew (hc:CtxF S0 w0 S w l os R):CtxF S0 w0 S w.drew l os R:=
 ⟨hc.ctx.drew,hc.own.step fun o ho a ha=>⟨rfl,(hc.own.mem o ho).out a ha⟩,hc.stab _ _ _ _ hc.row ⟨fun _ h=>h,fun _ _=>rfl⟩,hc.stab⟩
theorem CtxF.hold (hc:CtxF S0 w0 S w l os R) {e sz n cap:Nat} {A:Option Addr} {xs:List Value} (ho:Own S w0.heap.size w l e sz A n cap xs) (hd:∀ p∈os,∀ a b,A=some a->p.A=some b->a.block≠b.block):CtxF S0 w0 S w l (⟨e,sz,A,n,cap,xs⟩::os) R:=
 ⟨hc.ctx,⟨ho,hd,hc.own⟩,hc.row,hc.stab⟩
theorem CtxF.nil (hc:CtxF S0 w0 S w l os R) (e sz:Nat):CtxF S0 w0 S w l (⟨e,sz,none,0,0,[]⟩::os) R:=hc.hold Own.nil (fun p hp a b h=>by cases h)
theorem CtxF.fst {o:OR} (hc:CtxF S0 w0 S w l (o::os) R):Own S w0.heap.size w l o.e o.sz o.A o.n o.cap o.xs:=hc.own.1
theorem CtxF.rest {o:OR} (hc:CtxF S0 w0 S w l (o::os) R):CtxF S0 w0 S w l os R:=⟨hc.ctx,hc.own.2.2,hc.row,hc.stab⟩
theorem CtxF.swap {o p:OR} (hc:CtxF S0 w0 S w l (o::p::os) R):CtxF S0 w0 S w l (p::o::os) R:=by
 obtain⟨h1,h2,h3,h4,h5⟩:=hc.own
 refine⟨hc.ctx,⟨h3,fun q hq a b ha hb=>?_,h1,fun q hq=>h2 q (List.mem_cons_of_mem _ hq),h5⟩,hc.row,hc.stab⟩
 cases hq with
 | head=>exact fun e=>h2 p (List.mem_cons_self ..) b a hb ha e.symm
 | tail _ hq=>exact h4 q hq a b ha hb
theorem CtxF.fresh (hc:CtxF S0 w0 S w l os R) {e sz n cap:Nat} {A:Option Addr} {xs:List Value} (hb:Below w.heap.size w w') (ho:w'.ownsRow w.heap.size e sz (.slice A n cap) n xs):
  CtxF S0 w0 S w' l (⟨e,sz,A,n,cap,xs⟩::os) R:=by
 obtain⟨h1,h2,h3⟩:=hc.ctx.fresh hb ho
 refine (hc.quiet hb).1.hold h3 fun p hp a b ha hb' e1=>?_
 subst ha
 have:=(ho.lt a.block rfl).1
 have:=((hc.own.mem p hp).lt hb').2
 omega
theorem CtxF.told {o:OR} (hc:CtxF S0 w0 S w l (o::os) R):∃ S':Nat->Prop,(∀ b,S b->S' b)/\CtxF S0 w0 S' w l os (fun S w=>R S w/\Row S w o.A o.n o.cap o.xs):=by
 obtain⟨h1,h2,h3⟩:=hc.fst.told hc.ctx
 refine⟨_,fun b hb=>.inl hb,h1,hc.own.2.2.step fun p hp a ha=>⟨rfl,?_,((hc.own.2.2.mem p hp).out a ha).2⟩,⟨hc.stab _ _ _ _ hc.row h2,h3 hc.fst.fit.1 hc.fst.fit.2⟩,hc.stab.and fun _ _ _ _ h f=>h.fut f⟩
 rintro (hs | ⟨b,hb,e⟩)
 ·exact ((hc.own.2.2.mem p hp).out a ha).1 hs
 ·exact hc.own.2.1 p hp b a hb ha e
theorem CtxF.opened {e sz n cap:Nat} {A:Option Addr} {xs:List Value} (hc:CtxF S0 w0 S w l (⟨e,sz,A,n,cap,xs⟩::os) R) {a:Addr} (hA:A=some a):
  ∃ g cur,A=some ⟨g,0,none⟩/\CtxF S0 w0 S w ((g,e,cur)::l) os R/\cur.length=cap*sz/\cur.take (n*sz)=xs/\n<=cap/\cap<=maxLen:=by
 obtain⟨g,cur,e1,h1,h2⟩:=hc.fst.opened hc.ctx hA
 have e1:A=some ⟨g,0,none⟩:=e1
 refine⟨g,cur,e1,⟨h1,hc.own.2.2.step fun p hp b hb=>⟨rfl,((hc.own.2.2.mem p hp).out b hb).1,fun x hx=>?_⟩,hc.row,hc.stab⟩,h2⟩
 cases hx with
 | head=>exact hc.own.2.1 p hp _ b e1 hb
 | tail _ hx=>exact ((hc.own.2.2.mem p hp).out b hb).2 x hx
theorem CtxF.closed {e g:Nat} {cur:List Value} (hc:CtxF S0 w0 S w ((g,e,cur)::l) os R) (sz n cap:Nat) (h1:n<=cap) (h2:cap<=maxLen) (h3:cur.length=cap*sz):
  CtxF S0 w0 S w l (⟨e,sz,some ⟨g,0,none⟩,n,cap,cur.take (n*sz)⟩::os) R:=by
 obtain⟨k1,k2⟩:=Ctx.closed hc.ctx sz n cap h1 h2 h3
 refine hc.drop.hold k2 fun p hp a b ha hb e1=>?_
 cases ha
 exact ((hc.own.mem p hp).out b hb).2 _ (List.mem_cons_self ..) e1
theorem CtxF.made (hc:CtxF S0 w0 S w l os R) {cs:List Value} {e g:Nat} (hN:New w cs e g w') (sz n:Nat) (h:cs.length=n*sz) (hn:n<=maxLen):CtxF S0 w0 S w' l (⟨e,sz,some ⟨g,0,none⟩,n,n,cs⟩::os) R:=by
 have h4:=(hc.loc hN).1.closed sz n n (Nat.le_refl _) hn h
 rw [List.take_of_length_le (Nat.le_of_eq h)] at h4
 exact h4
theorem CtxF.out (hc:CtxF S0 w0 S w l os R):R (ext S0 w0 w) w:=hc.stab _ _ _ _ hc.row hc.ctx.out
theorem CtxF.old (hc:CtxF S0 w0 S w l os R) {X:Kn} (hs:Stab X) (h:X S0 w0) (hlt:∀ b,S0 b->b<w0.heap.size):X S w:=hs _ _ _ _ h ⟨hc.ctx.sub,fun b hb=>hc.below.block b (hlt b hb)⟩
def Oth (S:Nat->Prop) (os:List OR):Nat->Prop:=fun b=>S b\/∃ p∈os,∃ a,p.A=some a/\a.block=b
theorem CtxF.others {o:OR} (hc:CtxF S0 w0 S w l (o::os) R):Ctx S0 w0 (Oth S os) w l/\Own (Oth S os) w0.heap.size w l o.e o.sz o.A o.n o.cap o.xs:=by
 obtain⟨h1,h2,h3⟩:=hc.own
 refine⟨⟨hc.below,fun b hb=>.inl (hc.ctx.sub b hb),fun b hb=>?_,fun b hb=>?_,hc.ctx.locs.mono (fun _ _=>rfl) (fun x hx hs=>?_)⟩,h1.row,fun a ha=>⟨fun hs=>?_,(h1.out a ha).2⟩⟩
 ·rcases hb with hb | ⟨p,hp,a,ha,rfl⟩
  ·exact hc.ctx.new b hb
  ·exact .inr ((h3.mem p hp).lt ha).1
 ·rcases hb with hb | ⟨p,hp,a,ha,rfl⟩
  ·exact hc.ctx.lt b hb
  ·exact ((h3.mem p hp).lt ha).2
 ·rcases hs with hs | ⟨p,hp,a,ha,e1⟩
  ·exact hs
  ·exact absurd e1.symm (((h3.mem p hp).out a ha).2 x hx)
 ·rcases hs with hs | ⟨p,hp,b,hb,e1⟩
  ·exact (h1.out a ha).1 hs
  ·exact h2 p hp a b ha hb e1.symm
theorem CtxF.back {o o':OR} (hc:CtxF S0 w0 S w l (o::os) R) (h1:Ctx S0 w0 (Oth S os) w' l') (h2:Fut (Oth S os) w (Oth S os) w') (h3:Own (Oth S os) w0.heap.size w' l' o'.e o'.sz o'.A o'.n o'.cap o'.xs) (hl:∀ x∈l',∃ y∈l,y.1=x.1):
  CtxF S0 w0 S w' l' (o'::os) R:=by
 have hlo:∀ x∈l',∀ a:Addr,(∀ y∈l,y.1≠a.block)->x.1≠a.block:=fun x hx a h=>by
  obtain⟨y,hy,e⟩:=hl x hx
  rw [<-e];exact h y hy
 refine⟨⟨h1.below,hc.ctx.sub,hc.ctx.new,fun b hb=>h1.lt b (.inl hb),h1.locs.mono (fun _ _=>rfl) (fun _ _ h=>.inl h)⟩,⟨⟨h3.row,fun a ha=>⟨fun hs=>(h3.out a ha).1 (.inl hs),(h3.out a ha).2⟩⟩,fun p hp a b ha hb e1=>(h3.out a ha).1 (.inr ⟨p,hp,b,hb,e1.symm⟩),?_⟩,?_,hc.stab⟩
 ·exact hc.own.2.2.step fun p hp b hb=>⟨h2.2 _ (.inr ⟨p,hp,b,hb,rfl⟩),((hc.own.2.2.mem p hp).out b hb).1,fun x hx=>hlo x hx b ((hc.own.2.2.mem p hp).out b hb).2⟩
 ·exact hc.stab _ _ _ _ hc.row ⟨fun _ h=>h,fun b hb=>h2.2 b (.inl hb)⟩
end
section
variable {P:Program} {S0 S:Nat->Prop} {w0 w:World} {l:List LB} {os:List OR} {R:Kn} {n:Nat} {args:List Value} {K:Value->World->Prop}
section
variable {e sz bytes:Nat} {A B:Option Addr} {m cap c:Nat} {xs ys:List Value} {z:Value}
theorem D1 {t T:Nat} {cs:Array Bool} (ht:P.underlying t=some (.slice e)) (hi:(P.info? e).map (fun i=>(i.zero,i.size,i.bytes))=some (some z,sz,bytes)) (hzs:z.cells.size=sz) (hsz:0<sz)
  (hc:CtxF S0 w0 S w l (⟨e,sz,A,n,cap,xs⟩::os) R) {ad:Addr} (hl:ys.length=m*sz) (hy:Go.Vc.cellsAt w ad ys 0) (h1:G9 ys=true) (h63:n+m<=34359738368) (hby:bytes<=4096)
  {x y:Value} (ex:x=.slice A n cap) (ey:y=.slice (some ad) m c)
  (k:∀ A' cap' w',CtxF S0 w0 S w' l (⟨e,sz,A',n+m,cap',xs++ys⟩::os) R->K (.slice A' (n+m) cap') w'):
  ∃ v w',(builtin .append #[t,t] T cs #[x,y]).run P w=.ok (.value v) w'/\K v w':=by
 subst ex
 subst ey
 obtain⟨hc',ho'⟩:=hc.others
 refine X6 ht hi hzs hsz hc' ho' hl hy h1 h63 hby fun A' cap' w' h2 h3 h4 _=>k A' cap' w' ?_
 exact hc.back h2 h3 (o':=⟨e,sz,A',n+m,cap',xs++ys⟩) h4 fun x hx=>⟨x,hx,rfl⟩
theorem A1I {t T:Nat} {cs:Array Bool} {S1:Nat->Prop} (ht:P.underlying t=some (.slice e)) (hi:(P.info? e).map (fun i=>(i.zero,i.size,i.bytes))=some (some z,sz,bytes)) (hzs:z.cells.size=sz) (hsz:0<sz)
  (hc:CtxF S0 w0 S w l (⟨e,sz,A,n,cap,xs⟩::os) R) (hR:Row S1 w B m c ys) (hl:ys.length=m*sz) (h1:G9 ys=true) (h63:n+m<=34359738368) (hby:bytes<=4096)
  {x y:Value} (ex:x=.slice A n cap) (ey:y=.slice B m c)
  (k:∀ A' cap' w',CtxF S0 w0 S w' l (⟨e,sz,A',n+m,cap',xs++ys⟩::os) R->K (.slice A' (n+m) cap') w'):
  ∃ v w',(builtin .append #[t,t] T cs #[x,y]).run P w=.ok (.value v) w'/\K v w':=by
 obtain⟨hc',ho'⟩:=hc.others
 refine B3a ht hi hzs hsz hc' ho' hR hl h1 h63 hby ex ey fun A' cap' w' h2 h3 h4 _=>k A' cap' w' ?_
 exact hc.back h2 h3 (o':=⟨e,sz,A',n+m,cap',xs++ys⟩) h4 fun x hx=>⟨x,hx,rfl⟩
end
end
section
variable {S0 S:Nat->Prop} {w0 w:World} {l:List LB} {os:List OR} {R:Kn} {g T:Nat} {cs xs:List Value} {o:Nat} {K:World->Prop}
theorem CtxF.s (hc:CtxF S0 w0 S w l os R) (k:Nat) (h:l[k]?=some (g,T,cs)) (hk:∀ w',E2 w ⟨g,o,none⟩ xs w'->CtxF S0 w0 S w' (J6 l k (D3 cs o xs)) os R->K w') (hl:Nat.ble (o+xs.length) cs.length=true:=by rfl) (h1:G9 xs=true:=by rfl):G5 w ⟨g,o,none⟩ xs 0/\∀ w',E2 w ⟨g,o,none⟩ xs w'->K w':=
 ⟨hc.may k h o xs (Nat.le_of_ble_eq_true hl) h1,fun w' hS=>hk w' hS (hc.set k h hS).1⟩
theorem CtxF.s' (hc:CtxF S0 w0 S w l os R) (k:Nat) (h:l[k]?=some (g,T,cs)) (hk:∀ w',E2 w ⟨g,o,none⟩ xs w'->CtxF S0 w0 S w' (J6 l k (D3 cs o xs)) os R->K w') (hl:Nat.ble (o+xs.length) cs.length=true:=by rfl) (h1:G9 xs=true:=by rfl):G5 w ⟨g,o,none⟩ xs 0/\∀ w',E2 w ⟨g,o,none⟩ xs w'->True/\K w':=
 ⟨hc.may k h o xs (Nat.le_of_ble_eq_true hl) h1,fun w' hS=>⟨trivial,hk w' hS (hc.set k h hS).1⟩⟩
theorem CtxF.c (hc:CtxF S0 w0 S w l os R) (k:Nat) (h:l[k]?=some (g,T,cs)) {i:Nat} {v:Value} {K:Value->Prop} (hv:cs[i]?=some v) (hk:K v):∃ v,w.cell? ⟨g,i,none⟩=some v/\K v:=⟨v,hc.cell k h i hv,hk⟩
theorem CtxF.a (hc:CtxF S0 w0 S w l os R) (k:Nat) (h:l[k]?=some (g,T,cs)) {n:Nat} {K:List Value->Prop} (hn:cs.length=n) (hk:K cs):∃ ds:List Value,ds.length=n/\Go.Vc.cellsAt w ⟨g,0,none⟩ ds 0/\K ds:=⟨cs,hn,hc.cells k h,hk⟩
theorem CtxF.a' (hc:CtxF S0 w0 S w l os R) (k:Nat) (h:l[k]?=some (g,T,cs)) {n:Nat} {K:List Value->Prop} (hn:cs.length=n) (hk:K cs):∃ ds:List Value,ds.length=n/\Go.Vc.cellsAt w ⟨g,0,none⟩ ds 0/\True/\K ds:=⟨cs,hn,hc.cells k h,trivial,hk⟩
theorem CtxF.n (hc:CtxF S0 w0 S w l os R) {K:Nat->World->Prop} (hk:∀ g w',New w cs T g w'->CtxF S0 w0 S w' ((g,T,cs)::l) os R->K g w'):∀ g w',New w cs T g w'->K g w':=fun g w' h=>hk g w' h (hc.loc h).1
theorem CtxF.n' (hc:CtxF S0 w0 S w l os R) {K:Nat->World->Prop} (hk:∀ g w',New w cs T g w'->CtxF S0 w0 S w' ((g,T,cs)::l) os R->K g w'):∀ g w',New w cs T g w'->True/\K g w':=fun g w' h=>⟨trivial,hk g w' h (hc.loc h).1⟩
theorem CtxF.q (hc:CtxF S0 w0 S w l os R) {P:Program} {n:Nat} {args:List Value} {v:Value} {K:Value->World->Prop} (h:Calls P n args.toArray w (C7 v w)) (hk:∀ w',Below w.heap.size w w'->CtxF S0 w0 S w' l os R->K v w'):CallVc P n args w K:=C2 h fun w' hb=>hk w' hb (hc.quiet hb).1
theorem CtxF.q' (hc:CtxF S0 w0 S w l os R) {P:Program} {n:Nat} {args:List Value} {v:Value} {K:Value->World->Prop} (h:Calls P n args.toArray w (C7 v w)) (hk:∀ w',Below w.heap.size w w'->CtxF S0 w0 S w' l os R->K v w'):CallVc P n args w (fun v w'=>True/\K v w'):=C2 h fun w' hb=>⟨trivial,hk w' hb (hc.quiet hb).1⟩
end
end Go.Vc
end
section
namespace Go.Vc
open Go Go.RowKit
section
variable {P:Program} {ops:Array Oper} {C:World->Prop}
def YieldsC (P:Program) (ops:Array Oper) (C:World->Prop) (o:Oper) (v:Value) (a:Act):Prop:=
 (Region.wanted o (yielded ops a.tmps)=true/\∀ w,C w->(execOp a.eval o).run P w=.ok (.value v) w)\/
 (Region.wanted o (yielded ops a.tmps)=false/\v=undef)
theorem YieldsC.of_same {o:Oper} {v:Value} {a a':Act} (hy:YieldsC P ops C o v a) (he:execOp a'.eval o=execOp a.eval o)
  (hw:Region.wanted o (yielded ops a'.tmps)=Region.wanted o (yielded ops a.tmps)):YieldsC P ops C o v a':=by
 unfold YieldsC at*
 rw [he,hw]
 exact hy
theorem YieldsC.wpOp {i:Nat} {o:Oper} {v:Value} {a:Act} {Q:Exit->Act->World->Prop} (hi:ops[i]?=some o) (hy:YieldsC P ops C o v a)
  {K:Act->World->Prop} {w:World} (hC:C w) (h:K (a.put o.dst v) w):wpOp P ops Q i K a w:=by
 unfold Go.wpOp
 simp only [hi]
 rcases hy with ⟨hw,hv⟩ | ⟨hw,rfl⟩
 ·simp only [hw,if_true,Oper.wp,hv w hC,Oper.upon];exact .inl h
 ·simp only [hw,Bool.false_eq_true,if_false];exact h
theorem B0r {Q:Exit->Act->World->Prop} {j:Nat} {oi oj:Oper} {v:Value} (hj:ops[j]?=some oj) (hap:oi.apart ops oj=true)
  (hsi:∀ cs b,oi.op≠.select cs b) (hsj:∀ cs b,oj.op≠.select cs b)
  (hQ:∀ c a w,Q (.panic c) (a.put oi.dst v) w->Q (.panic c) a w) {K:Act->World->Prop} {a:Act} {w:World}
  (hy:YieldsC P ops C oi v a) (h:wpOp P ops Q j K (a.put oi.dst v) w):
  wpOp P ops Q j (fun a' w'=>YieldsC P ops C oi v a'/\K (a'.put oi.dst v) w') a w:=by
 obtain⟨h1,h2,h3⟩:=Oper.apart_spec hap
 have keep:∀ (a:Act),YieldsC P ops C oi v a->∀ u,YieldsC P ops C oi v (a.put oj.dst u):=fun a hy u=>
  hy.of_same (execOp_put oi hsi a oj.dst u h3) (wanted_put oi a oj.dst u h3)
 have keepD:∀ d,YieldsC P ops C oi v { a with defers:=d::a.defers }:=fun d=>hy.of_same rfl rfl
 unfold Go.wpOp at*
 simp only [hj] at*
 rw [wanted_put oj a oi.dst v h1] at h
 split
 ·rename_i hw
  simp only [hw,if_true] at h
  rcases h with h | ⟨hasks,hlets⟩
  case inr=>exact .inr ⟨by unfold Oper.asks at *;rw [execOp_put oj hsj a oi.dst v h1] at hasks;exact hasks,hlets⟩
  refine .inl ?_
  unfold Oper.wp at*
  rw [execOp_put oj hsj a oi.dst v h1] at h
  generalize (execOp a.eval oj).run P w=r at*
  cases r with
  | ok n w'=>
   cases n<;>simp only [Oper.upon] at h ⊢
   case value u=>exact⟨keep a hy u,by rw [<-Act.put_comm a v u h2];exact h⟩
   case skip=>exact⟨keep a hy _,by rw [<-Act.put_comm a v undef h2];exact h⟩
   case defer d=>
    refine⟨keep _ (keepD d) _,?_⟩
    rw [<-Act.put_comm _ v undef h2,<-Act.put_defers]
    exact h
   case enter f args=>
    refine Calls.mono h fun e w'' he=>?_
    cases e with
    | returned u=>exact⟨keep a hy u,by rw [<-Act.put_comm a v u h2];exact he⟩
    | panicked c=>exact hQ _ _ _ he
    | outgrown=>exact he
   case row row args=>exact Rows.mono h fun u w'' he=>⟨keep a hy u,by rw [<-Act.put_comm a v u h2];exact he⟩
  | halt x w'=>
   cases x<;>simp only [Oper.upon] at h ⊢
   case panic u=>exact hQ _ _ _ h
 ·rename_i hw
  simp only [hw] at h
  exact⟨keep a hy _,by rw [<-Act.put_comm a v undef h2];exact h⟩
def A2V (ops:Array Oper) (i:Nat):Bool:=
 match ops[i]? with
 | some o=>(List.range ops.size).all fun j=>Nat.beq j i||o.after.toList.any fun e=>Region.binds .any e&&Nat.beq e.on j
 | none=>false
theorem A7P {ops:Array Oper} {j:Nat} {oj:Oper} (h:A2V ops j=true) (hj:ops[j]?=some oj) {i:Nat} (hi:i<ops.size) (hne:i≠j):∃ e∈oj.after,Region.binds .any e=true/\e.on=i:=by
 unfold A2V at h
 rw [hj] at h
 have h1:=List.all_eq_true.1 h i (List.mem_range.2 hi)
 simp only [Bool.or_eq_true] at h1
 rcases h1 with h1 | h1
 ·exact absurd (Nat.eq_of_beq_eq_true h1) hne
 ·obtain⟨e,he,h2⟩:=List.any_eq_true.1 h1
  simp only [Bool.and_eq_true] at h2
  exact⟨e,by simpa using he,h2.1,Nat.eq_of_beq_eq_true h2.2⟩
def A1J (P:Program) (ops:Array Oper) (C:World->Prop) (Q:Exit->Act->World->Prop):Nat->Array Bool->Act->World->Prop
 | 0,listed,a,w=>Region.ready .any ops listed=[]/\Q .normal a w
 | fuel+1,listed,a,w=>
  (Region.ready .any ops listed=[]->Q .normal a w)/\
  ∀ i∈Region.ready .any ops listed,wpOp P ops Q i (fun a' w'=>(A2V ops i=true\/C w')/\A1J P ops C Q fuel (listed.setIfInBounds i true) a' w') a w
theorem A4J {Q:Exit->Act->World->Prop}:∀ (fuel:Nat) (listed:Array Bool) (a:Act) (w:World),A1J P ops C Q fuel listed a w->wpAny P .any ops Q fuel listed a w
 | 0,_,_,_,h=>h
 | fuel+1,listed,a,w,h=>⟨h.1,fun i hi=>wpOp_mono (fun a' w' hh=>A4J fuel _ a' w' hh.2) (h.2 i hi)⟩
theorem B0s {Q:Exit->Act->World->Prop} {i:Nat} {oi:Oper} {v:Value} (hi:ops[i]?=some oi) (hsel:∀ (j:Nat) (o:Oper) cs b,ops[j]?=some o->o.op≠.select cs b)
  (hQ:∀ c a w,Q (.panic c) (a.put oi.dst v) w->Q (.panic c) a w):
  ∀ (fuel:Nat) (listed:Array Bool) (a:Act) (w:World),C w->
   (∀ j oj,ops[j]?=some oj->j≠i->listed.getD j true=false->(∀ e∈oj.after,Region.binds .any e=true->e.on≠i)->oi.apart ops oj=true)->
   i∈Region.ready .any ops listed->YieldsC P ops C oi v a->
   A1J P ops C Q fuel (listed.setIfInBounds i true) (a.put oi.dst v) w->A1J P ops C Q (fuel+1) listed a w:=by
 intro fuel
 induction fuel with
 | zero=>
  intro listed a w hC _ hr hy H
  refine⟨fun h=>(by rw [h] at hr;cases hr),fun j hj=>?_⟩
  by_cases hji:j=i
  ·subst hji;exact hy.wpOp hi hC ⟨.inr hC,H⟩
  ·have:=ready_mono hj hji
   rw [H.1] at this
   cases this
 | succ fuel ih=>
  intro listed a w hC hfree hr hy H
  refine⟨fun h=>(by rw [h] at hr;cases hr),fun j hj=>?_⟩
  by_cases hji:j=i
  ·subst hji;exact hy.wpOp hi hC ⟨.inr hC,H⟩
  ·have h1:=H.2 j (ready_mono hj hji)
   obtain⟨hjun,oj,hoj,hall⟩:=mem_ready.1 hj
   have hnot:∀ e∈oj.after,Region.binds .any e=true->e.on≠i:=fun e he hb heq=>by
    have h1:=hall e he hb
    have h0:=(mem_ready.1 hr).1
    rw [heq] at h1
    rcases Nat.lt_or_ge i listed.size with h' | h'
    ·simp [h'] at h0 h1;rw [h0] at h1;cases h1
    ·simp [Array.getElem?_eq_none h'] at h1
   have h2:=B0r hoj (hfree j oj hoj hji hjun hnot) (fun cs b=>hsel i oi cs b hi) (fun cs b=>hsel j oj cs b hoj) hQ hy h1
   have hfree':∀ k ok,ops[k]?=some ok->k≠i->(listed.setIfInBounds j true).getD k true=false->
     (∀ e∈ok.after,Region.binds .any e=true->e.on≠i)->oi.apart ops ok=true:=fun k ok hk hki hun hno=>by
    refine hfree k ok hk hki ?_ hno
    by_cases hjk:j=k
    ·subst hjk;exact hjun
    ·rw [getD_set_ne true hjk] at hun;exact hun
   have hlt:i<ops.size:=by
    rcases Nat.lt_or_ge i ops.size with h | h
    ·exact h
    ·rw [Array.getElem?_eq_none h] at hi;cases hi
   have hnc:¬ A2V ops j=true:=fun hc=>by
    obtain⟨e,he,hb,heq⟩:=A7P hc hoj hlt (Ne.symm hji)
    exact hnot e he hb heq
   refine wpOp_mono (fun a' w' h3=>⟨h3.2.1,ih (listed.setIfInBounds j true) a' w' (h3.2.1.resolve_left hnc) hfree' (ready_mono hr (Ne.symm hji)) h3.1 ?_⟩) h2
   rw [Array.setIfInBounds_comm _ _ hji]
   exact h3.2.2
end
inductive Sched where
 | fin
 | z (i:Nat)
 | q (i:Nat) (s:Sched)
 | n (i:Nat) (s t:Sched)
 | stop
noncomputable def Sched.Q (l:List Nat) (s:Sched):Sched:=List.rec (motive:=fun _=>Sched) s (fun i _ ih=>.q i ih) l
def Sched.isAlt:Sched->Bool
 | .n ..=>true
 | .stop=>true
 | _=>false
def Sched.isStop:Sched->Bool
 | .stop=>true
 | _=>false
def U6 (ops:Array Oper):Sched->Nat->Array Bool->List Nat->Bool
 | .fin,_,_,rem=>rem.isEmpty
 | .z i,fuel+1,listed,rem=>(rem.all fun j=>Nat.beq j i)&&rem.contains i&&A2V ops i&&(Region.ready .any ops (listed.setIfInBounds i true)).isEmpty
 | .q i s,fuel+1,listed,rem=>rem.contains i&&Region.free .any ops listed i&&!s.isStop&&U6 ops s fuel (listed.setIfInBounds i true) (Region.ready .any ops (listed.setIfInBounds i true))
 | .n i s t,fuel+1,listed,rem=>rem.contains i&&!s.isStop&&t.isAlt&&U6 ops s fuel (listed.setIfInBounds i true) (Region.ready .any ops (listed.setIfInBounds i true))&&U6 ops t (fuel+1) listed (rem.filter (fun j=>!Nat.beq j i))
 | .stop,_,_,rem=>rem.isEmpty
 | _,_,_,_=>false
def A7Q (ops:Array Oper) (s:Sched):Bool:=
 Region.noSelect ops&&!s.isStop&&U6 ops s ops.size (Array.replicate ops.size false) (Region.ready .any ops (Array.replicate ops.size false))
noncomputable def qOp (P:Program) (L:Lay) (C:World->Prop) (T:Nat) (op:Op) (f:Fr) (K:Value->Prop):Prop:=
 match op with
 | .load t x=>match L.ty t,ev f x with
  | .none,_=>False
  | .array _ _ _ z,.pointer (some a)=>∃ cs:List Value,cs.length=z.length/\(∀ w,C w->cellsAt w a cs 0)/\K (.agg cs.toArray)
  | .struct _ z,.pointer (some a)=>∃ cs:List Value,cs.length=z.length/\(∀ w,C w->cellsAt w a cs 0)/\K (.agg cs.toArray)
  | _,.pointer (some a)=>∃ v,(∀ w,C w->w.cell? a=some v)/\K v
  | _,_=>False
 | op=>pOp P L T op f K
noncomputable def gOp (ops0:List Oper) (o:Oper) (f:Fr) (yes:Nat->Op->Fr->Option Nat->Prop) (no:Fr->Prop):Prop:=
 match o with
 | ⟨dst,op,T,_,_,none⟩=>yes T op f dst
 | ⟨dst,op,T,_,_,some (j,want)⟩=>match R1 ops0 f j with
  | some (t,b)=>Bool.rec (motive:=fun _=>Prop)
    (cond want (A15 (upd f t (.bool false)) dst undef no) (yes T op (upd f t (.bool false)) dst))
    (cond want (yes T op (upd f t (.bool true)) dst) (A15 (upd f t (.bool true)) dst undef no)) b
  | none=>A15 f dst undef no
noncomputable def dV (P:Program) (L:Lay) (ops0:List Oper) (C:World->Prop) (s:Sched):Fr->World->(Fr->World->Prop)->Prop:=
 Sched.rec (motive:=fun _=>Fr->World->(Fr->World->Prop)->Prop)
  (fun f w K=>K f w)
  (fun i f w K=>match ops0[i]? with
   | some o=>gOp ops0 o f (fun T op f dst=>vOp P L T op f w fun v w'=>A15 f dst v fun f'=>K f' w') (fun f'=>K f' w)
   | none=>False)
  (fun i _ ih f w K=>match ops0[i]? with
   | some o=>gOp ops0 o f (fun T op f dst=>qOp P L C T op f fun v=>A15 f dst v fun f'=>ih f' w K) (fun f'=>ih f' w K)
   | none=>False)
  (fun i _ _ ihs iht f w K=>(match ops0[i]? with
   | some o=>gOp ops0 o f (fun T op f dst=>vOp P L T op f w fun v w'=>C w'/\A15 f dst v fun f'=>ihs f' w' K) (fun f'=>ihs f' w K)
   | none=>False)/\iht f w K)
  (fun _ _ _=>True) s
section
variable {P:Program} {L:Lay} {C:World->Prop}
theorem B0t (hL:L.Ok P) (T:Nat) (op:Op) (f:Fr) (K:Value->Prop) (h:qOp P L C T op f K)
  (dst:Option Nat) (pos:String) (after:Array Edge) (g:Option (Nat × Bool)):∃ v,(∀ w,C w->(execOp (ev f) ⟨dst,op,T,pos,after,g⟩).run P w=.ok (.value v) w)/\K v:=by
 have pure_:pOp P L T op f K->∃ v,(∀ w,C w->(execOp (ev f) ⟨dst,op,T,pos,after,g⟩).run P w=.ok (.value v) w)/\K v:=by
  intro hp
  obtain⟨v,h1,h2⟩:=A6A hL T op f _ hp dst pos after g
  exact⟨v,fun w _=>h1 w,h2⟩
 cases op
 case load t x=>
  have ht:=hL.ty t
  simp only [qOp] at h
  simp only [execOp]
  generalize hd:L.ty t=d at h ht
  have key:∀ (a:Addr) (v:Value),ev f x=.pointer (some a)->(∀ w,C w->(loadVar t a).run P w=.ok v w)->K v->
    ∃ v,(∀ w,C w->((do pure (.value (<-Instr.loadAt t (ev f x))):Sem Next)).run P w=.ok (.value v) w)/\K v:=by
   intro a v e hr hk
   exact⟨v,fun w hw=>by simp [Instr.loadAt,e,Instr.sureAddr,hr w hw],hk⟩
  generalize hx:ev f x=vx at h key
  cases vx with
  | pointer p=>
   cases p with
   | none=>cases d<;>exact h.elim
   | some a=>
    cases d with
    | none=>exact h.elim
    | array n e esz z=>
     obtain⟨cs,h1,h2,h3⟩:=h
     exact key a _ rfl (fun w hw=>O4 ht.1 rfl (A28 ht.2.1) h1 (h2 w hw)) h3
    | struct fs z=>
     obtain⟨cs,h1,h2,h3⟩:=h
     obtain⟨⟨F,hu,_⟩,hz⟩:=ht
     exact key a _ rfl (fun w hw=>O4 hu rfl (A28 hz) h1 (h2 w hw)) h3
    | int k=>obtain⟨v,h1,h2⟩:=h;exact key a _ rfl (fun w hw=>E0 ht.1 rfl (h1 w hw)) h2
    | str=>obtain⟨v,h1,h2⟩:=h;exact key a _ rfl (fun w hw=>E0 ht.1 rfl (h1 w hw)) h2
    | bool=>obtain⟨v,h1,h2⟩:=h;exact key a _ rfl (fun w hw=>E0 ht.1 rfl (h1 w hw)) h2
    | slice e s=>obtain⟨v,h1,h2⟩:=h;exact key a _ rfl (fun w hw=>E0 ht.1 rfl (h1 w hw)) h2
    | one z=>obtain⟨v,h1,h2⟩:=h;obtain⟨⟨u,hu,hg⟩,_⟩:=ht;exact key a _ rfl (fun w hw=>E0 hu hg (h1 w hw)) h2
  | _=>cases d<;>exact h.elim
 all_goals exact pure_ h
theorem A3D {n:Nat} {a:Act} {f:Fr} (hA:Agree n a f) {ops0:List Oper} {o:Oper} {yes:Nat->Op->Fr->Option Nat->Prop} {no:Fr->Prop} (h:gOp ops0 o f yes no):
  (Region.wanted o (yielded ops0.toArray a.tmps)=true/\yes o.type o.op f o.dst)\/(Region.wanted o (yielded ops0.toArray a.tmps)=false/\no (B8f f o.dst undef)):=by
 obtain⟨dst,op,T,pos,after,guard⟩:=o
 cases guard with
 | none=>exact .inl ⟨rfl,h⟩
 | some g=>
  obtain⟨j,want⟩:=g
  have h':(match R1 ops0 f j with
    | some (t,b)=>Bool.rec (motive:=fun _=>Prop)
      (cond want (A15 (upd f t (.bool false)) dst undef no) (yes T op (upd f t (.bool false)) dst))
      (cond want (yes T op (upd f t (.bool true)) dst) (A15 (upd f t (.bool true)) dst undef no)) b
    | none=>A15 f dst undef no):=h
  cases hg:R1 ops0 f j with
  | none=>rw [hg] at h';simp only [X4] at h';exact .inr ⟨A4H hA hg,h'⟩
  | some tb=>
   obtain⟨t,b⟩:=tb
   rw [hg] at h'
   simp only at h'
   obtain⟨hu,hw⟩:=A9R hA hg (dst:=dst) (op:=op) (T:=T) (pos:=pos) (after:=after) (want:=want)
   cases b<;>cases want<;>simp only [cond_true,cond_false,hu,X4] at h'
   ·exact .inl ⟨hw,h'⟩
   ·exact .inr ⟨hw,h'⟩
   ·exact .inr ⟨hw,h'⟩
   ·exact .inl ⟨hw,h'⟩
theorem B0u {n:Nat} (l:List Oper):A0x n l=true->∀ (i:Nat) (o:Oper),l[i]?=some o->(match o.dst with | some t=>Nat.blt t n | none=>true)=true:=by
 induction l with
 | nil=>intro _ i o h;simp at h
 | cons x r ih=>
  intro h i o hi
  simp only [A0x,Bool.and_eq_true] at h
  cases i with
  | zero=>
   simp only [List.getElem?_cons_zero,Option.some.injEq] at hi
   rw [<-hi]
   exact h.1
  | succ i=>exact ih h.2 i o (by simpa using hi)
def A33 (n:Nat) (K:Fr->World->Prop) (e:Exit) (a:Act) (w:World):Prop:=e=.normal/\∃ f',Agree n a f'/\K f' w
theorem B3b (hL:L.Ok P) (n:Nat) (ops0:List Oper) (hd:A0x n ops0=true) (hs:Region.noSelect ops0.toArray=true) (K:Fr->World->Prop):
  ∀ (s:Sched) (fuel:Nat) (listed:Array Bool) (rem:List Nat) (a:Act) (f:Fr) (w:World),C w->Agree n a f->U6 ops0.toArray s fuel listed rem=true->dV P L ops0 C s f w K->
   (s.isStop=false->rem=Region.ready .any ops0.toArray listed->A1J P ops0.toArray C (A33 n K) fuel listed a w)/\
   (s.isAlt=true->∀ i∈rem,∃ fuel',fuel=fuel'+1/\wpOp P ops0.toArray (A33 n K) i (fun a' w'=>(A2V ops0.toArray i=true\/C w')/\A1J P ops0.toArray C (A33 n K) fuel' (listed.setIfInBounds i true) a' w') a w):=by
 have hQ:∀ (d:Option Nat) (v:Value) (c:List PanicEntry) (a:Act) (w:World),A33 n K (.panic c) (a.put d v) w->A33 n K (.panic c) a w:=fun d v c a w h=>by cases h.1
 intro s
 induction s with
 | fin=>
  intro fuel listed rem a f w hC hA hk h
  refine⟨fun _ hr=>?_,fun h=>by cases h⟩
  have hrem:rem=[]:=by simpa [U6] using hk
  rw [hrem] at hr
  cases fuel with
  | zero=>exact⟨hr.symm,rfl,f,hA,h⟩
  | succ fuel=>exact⟨fun _=>⟨rfl,f,hA,h⟩,fun i hi=>by rw [<-hr] at hi;cases hi⟩
 | z i=>
  intro fuel listed rem a f w hC hA hk h
  refine⟨fun _ hr=>?_,fun h=>by cases h⟩
  cases fuel with
  | zero=>cases hk
  | succ fuel=>
   simp only [U6,Bool.and_eq_true] at hk
   obtain⟨⟨⟨k1,k2⟩,k3⟩,k4⟩:=hk
   have k4':Region.ready .any ops0.toArray (listed.setIfInBounds i true)=[]:=by simpa using k4
   have h':(match ops0[i]? with
    | some o=>gOp ops0 o f (fun T op f dst=>vOp P L T op f w fun v w'=>A15 f dst v fun f'=>K f' w') (fun f'=>K f' w)
    | none=>False):=h
   have fin_:∀ a' w' f',Agree n a' f'->K f' w'->A1J P ops0.toArray C (A33 n K) fuel (listed.setIfInBounds i true) a' w':=by
    intro a' w' f' hA' hK
    cases fuel with
    | zero=>exact⟨k4',rfl,f',hA',hK⟩
    | succ fuel=>exact⟨fun _=>⟨rfl,f',hA',hK⟩,fun j hj=>by rw [k4'] at hj;cases hj⟩
   refine⟨fun h0=>(by rw [hr,h0] at k2;cases k2),fun j hj=>?_⟩
   rw [<-hr] at hj
   obtain rfl:j=i:=Nat.eq_of_beq_eq_true (List.all_eq_true.1 k1 j hj)
   cases ho:ops0[j]? with
   | none=>rw [ho] at h';exact h'.elim
   | some o=>
    rw [ho] at h'
    simp only at h'
    have hoa:ops0.toArray[j]?=some o:=by simpa using ho
    have hdo:=B0u ops0 hd j o ho
    unfold Go.wpOp
    simp only [hoa]
    rcases A3D hA h' with ⟨hw,hy⟩ | ⟨hw,hy⟩
    ·rw [if_pos hw]
     left
     unfold Oper.wp
     rw [hA.eval]
     have hg:=A1F hL o.type o.op f w _ hy o.dst o.pos o.after o.guard
     refine hg.upon _ _ _ _ fun v w' hk=>⟨.inl k3,?_⟩
     rw [X4] at hk
     exact fin_ _ _ _ (hA.putO hdo v) hk
    ·rw [if_neg (by rw [hw];simp)]
     exact⟨.inl k3,fin_ _ _ _ (hA.putO hdo undef) hy⟩
 | stop=>
  intro fuel listed rem a f w hC hA hk h
  have hrem:rem=[]:=by simpa [U6] using hk
  exact⟨fun h=>(by cases h),fun _ i hi=>(by rw [hrem] at hi;cases hi)⟩
 | q i s ih=>
  intro fuel listed rem a f w hC hA hk h
  refine⟨fun _ hr=>?_,fun h=>by cases h⟩
  cases fuel with
  | zero=>cases hk
  | succ fuel=>
   simp only [U6,Bool.and_eq_true,Bool.not_eq_true'] at hk
   obtain⟨⟨⟨k1,k2⟩,k3⟩,k4⟩:=hk
   have h':(match ops0[i]? with
    | some o=>gOp ops0 o f (fun T op f dst=>qOp P L C T op f fun v=>A15 f dst v fun f'=>dV P L ops0 C s f' w K) (fun f'=>dV P L ops0 C s f' w K)
    | none=>False):=h
   cases ho:ops0[i]? with
   | none=>rw [ho] at h';exact h'.elim
   | some o=>
    rw [ho] at h'
    simp only at h'
    have hoa:ops0.toArray[i]?=some o:=by simpa using ho
    have hin:i∈Region.ready .any ops0.toArray listed:=by rw [<-hr];simpa using k1
    have hdo:=B0u ops0 hd i o ho
    rcases A3D hA h' with ⟨hw,hy⟩ | ⟨hw,hy⟩
    ·obtain⟨v,h1,h2⟩:=B0t hL o.type o.op f _ hy o.dst o.pos o.after o.guard
     rw [X4] at h2
     have hy':YieldsC P ops0.toArray C o v a:=.inl ⟨hw,fun w hw=>by rw [hA.eval];exact h1 w hw⟩
     exact B0s hoa (Region.noSelect_spec hs) (hQ _ _) fuel listed a w hC (fun j oj h3 h4 h5 h6=>Region.free_spec hoa k2 j oj h3 h4 h5 h6) hin hy'
      ((ih fuel _ _ _ _ w hC (hA.putO hdo v) k4 h2).1 k3 rfl)
    ·have hy':YieldsC P ops0.toArray C o undef a:=.inr ⟨hw,rfl⟩
     exact B0s hoa (Region.noSelect_spec hs) (hQ _ _) fuel listed a w hC (fun j oj h3 h4 h5 h6=>Region.free_spec hoa k2 j oj h3 h4 h5 h6) hin hy'
      ((ih fuel _ _ _ _ w hC (hA.putO hdo undef) k4 hy).1 k3 rfl)
 | n i s t ihs iht=>
  intro fuel listed rem a f w hC hA hk h
  cases fuel with
  | zero=>cases hk
  | succ fuel=>
   simp only [U6,Bool.and_eq_true,Bool.not_eq_true'] at hk
   obtain⟨⟨⟨⟨k1,k2⟩,k3⟩,k4⟩,k5⟩:=hk
   have h':(match ops0[i]? with
    | some o=>gOp ops0 o f (fun T op f dst=>vOp P L T op f w fun v w'=>C w'/\A15 f dst v fun f'=>dV P L ops0 C s f' w' K) (fun f'=>dV P L ops0 C s f' w K)
    | none=>False)/\dV P L ops0 C t f w K:=h
   obtain⟨h1,h2⟩:=h'
   have hone:wpOp P ops0.toArray (A33 n K) i (fun a' w'=>(A2V ops0.toArray i=true\/C w')/\A1J P ops0.toArray C (A33 n K) fuel (listed.setIfInBounds i true) a' w') a w:=by
    cases ho:ops0[i]? with
    | none=>rw [ho] at h1;exact h1.elim
    | some o=>
     rw [ho] at h1
     simp only at h1
     have hoa:ops0.toArray[i]?=some o:=by simpa using ho
     have hdo:=B0u ops0 hd i o ho
     unfold Go.wpOp
     simp only [hoa]
     rcases A3D hA h1 with ⟨hw,hy⟩ | ⟨hw,hy⟩
     ·rw [if_pos hw]
      left
      unfold Oper.wp
      rw [hA.eval]
      have hg:=A1F hL o.type o.op f w _ hy o.dst o.pos o.after o.guard
      refine hg.upon _ _ _ _ fun v w' hk=>⟨.inr hk.1,?_⟩
      have hk2:=hk.2
      rw [X4] at hk2
      exact (ihs fuel _ _ _ _ w' hk.1 (hA.putO hdo v) k4 hk2).1 k2 rfl
     ·rw [if_neg (by rw [hw];simp)]
      exact⟨.inr hC,(ihs fuel _ _ _ _ w hC (hA.putO hdo undef) k4 hy).1 k2 rfl⟩
   have hall:∀ j∈rem,wpOp P ops0.toArray (A33 n K) j (fun a' w'=>(A2V ops0.toArray j=true\/C w')/\A1J P ops0.toArray C (A33 n K) fuel (listed.setIfInBounds j true) a' w') a w:=by
    intro j hj
    by_cases e:j=i
    ·subst e;exact hone
    ·obtain⟨fuel',e1,h3⟩:=(iht (fuel+1) listed _ a f w hC hA k5 h2).2 k3 j (by
      rw [List.mem_filter]
      refine⟨hj,?_⟩
      cases hb:Nat.beq j i with
      | false=>rfl
      | true=>exact absurd (Nat.eq_of_beq_eq_true hb) e)
     obtain rfl:fuel=fuel':=by omega
     exact h3
   refine⟨fun _ hr=>⟨fun h0=>?_,fun j hj=>hall j (by rw [hr];exact hj)⟩,fun _ j hj=>⟨fuel,rfl,hall j hj⟩⟩
   rw [hr,h0] at k1
   cases k1
theorem B8k (hL:L.Ok P) (hm:P.follows .mixedOrders=true) {id:Nat} {ops:List Oper} {f:Fr} {w:World} {K:Fr->World->Prop} (s:Sched) (C:World->Prop)
  (hs:A7Q ops.toArray s=true) (hC:C w.drew) (h:dV P L ops C s f w.drew K):Drawn P id ops.toArray f w K:=by
 constructor
 intro n0 a hd hA
 have hd:A0x n0 ops=true:=by simpa using hd
 simp only [A7Q,Bool.and_eq_true,Bool.not_eq_true'] at hs
 obtain⟨⟨h1,h2⟩,h3⟩:=hs
 refine wp_region_any hm (A4J (C:=C) _ _ _ _ ?_)
 exact (B3b hL n0 ops hd h1 K s _ _ _ a f _ hC hA h3 h).1 h2 rfl
end
end Go.Vc
end
namespace Go.Proofs.YtfekddndgakneaaGreatDoor
open Go.Vc
def tys:List (Nat × TD):=[
 (2,.int .i64),
 (3,.int .i64),
 (4,.bool),
 (5,.int .u8),
 (9,.str),
 (20,.one (.nilIface)),
 (21,.int .i32),
 (22,.int .i64),
 (24,.struct [(0,1,false),(1,1,false)] [.int .i64 0,.int .i64 0]),
 (25,.slice 3 1),
 (27,.struct [(0,1,false),(1,1,false),(2,1,false)] [.int .i64 0,.slice Option.none 0 0,.int .i64 0]),
 (28,.slice 60 8),
 (29,.slice 90 2),
 (30,.slice 104 3),
 (31,.array 5 2 1 [.int .i64 0,.int .i64 0,.int .i64 0,.int .i64 0,.int .i64 0]),
 (33,.struct [(0,1,false),(1,1,false),(2,1,false),(3,5,true)] [.int .i64 0,.slice Option.none 0 0,.slice Option.none 0 0,.int .i64 0,.int .i64 0,.int .i64 0,.int .i64 0,.int .i64 0]),
 (35,.struct [(0,1,false),(1,1,false),(2,1,false),(3,1,false),(4,1,false),(5,1,false),(6,1,false),(7,2,true),(9,3,true),(12,1,false),(13,8,true)] [.int .i64 0,.int .i64 0,.int .i64 0,.int .i64 0,.int .i64 0,.int .i64 0,.int .i64 0,.int .i64 0,.int .i64 0,.int .i64 0,.slice Option.none 0 0,.int .i64 0,.slice Option.none 0 0,.int .i64 0,.slice Option.none 0 0,.slice Option.none 0 0,.int .i64 0,.int .i64 0,.int .i64 0,.int .i64 0,.int .i64 0]),
 (45,.slice 5 1),
 (48,.slice 53 23),
 (49,.one (.pointer Option.none)),
 (51,.slice 35 21),
 (53,.struct [(0,1,false),(1,1,false),(2,21,true)] [.int .i64 0,.int .i64 0,.int .i64 0,.int .i64 0,.int .i64 0,.int .i64 0,.int .i64 0,.int .i64 0,.int .i64 0,.int .i64 0,.int .i64 0,.int .i64 0,.slice Option.none 0 0,.int .i64 0,.slice Option.none 0 0,.int .i64 0,.slice Option.none 0 0,.slice Option.none 0 0,.int .i64 0,.int .i64 0,.int .i64 0,.int .i64 0,.int .i64 0]),
 (58,.one (.nilFunc)),
 (60,.struct [(0,1,false),(1,1,false),(2,1,false),(3,1,false),(4,1,false),(5,1,false),(6,1,false),(7,1,false)] [.int .i64 0,.string ByteArray.empty,.string ByteArray.empty,.int .i64 0,.int .i64 0,.string ByteArray.empty,.int .i64 0,.int .i64 0]),
 (65,.slice 2 1),
 (66,.one (.nilFunc)),
 (69,.one (.nilFunc)),
 (75,.one (.complex .f64 0 0)),
 (77,.slice 79 4),
 (79,.struct [(0,1,false),(1,1,false),(2,1,false),(3,1,false)] [.int .i64 0,.int .i64 0,.string ByteArray.empty,.slice Option.none 0 0]),
 (83,.slice 9 1),
 (85,.struct [(0,1,false)] [.slice Option.none 0 0]),
 (88,.slice 102 3),
 (90,.struct [(0,1,false),(1,1,false)] [.string ByteArray.empty,.slice Option.none 0 0]),
 (98,.array 6 4 1 [.bool false,.bool false,.bool false,.bool false,.bool false,.bool false]),
 (100,.one (.nilFunc)),
 (102,.struct [(0,1,false),(1,1,false),(2,1,false)] [.int .i64 0,.bool false,.string ByteArray.empty]),
 (104,.struct [(0,1,false),(1,2,true)] [.int .i64 0,.int .i64 0,.int .i64 0]),
 (106,.struct [(0,1,false),(1,1,false)] [.int .i64 0,.int .i64 0]),
 (111,.one (.nilFunc)),
 (121,.one (.float .f64 0)),
 (122,.array 2 121 1 [.float .f64 0,.float .f64 0]),
 (130,.one (.pointer Option.none)),
 (132,.one (.pointer Option.none)),
 (137,.slice 24 2),
 (146,.one (.nilFunc)),
 (147,.array 2 3 1 [.int .i64 0,.int .i64 0]),
 (148,.one (.nilFunc)),
 (149,.array 2 2 1 [.int .i64 0,.int .i64 0]),
 (150,.one (.nilFunc)),
 (154,.one (.nilFunc)),
 (156,.one (.nilFunc)),
 (157,.one (.nilFunc)),
 (166,.one (.nilFunc)),
 (168,.one (.nilFunc)),
 (171,.one (.nilFunc)),
 (173,.one (.nilFunc)),
 (174,.one (.map Option.none)),
 (176,.struct [(0,1,false),(1,1,false)] [.int .i64 0,.map Option.none]),
 (177,.one (.pointer Option.none)),
 (181,.struct [(0,8,true),(8,1,false),(9,1,false),(10,1,false)] [.int .i64 0,.slice Option.none 0 0,.slice Option.none 0 0,.int .i64 0,.int .i64 0,.int .i64 0,.int .i64 0,.int .i64 0,.slice Option.none 0 0,.int .i64 0,.int .i64 0]),
 (183,.struct [(0,1,false),(1,11,true),(12,1,false)] [.pointer Option.none,.int .i64 0,.slice Option.none 0 0,.slice Option.none 0 0,.int .i64 0,.int .i64 0,.int .i64 0,.int .i64 0,.int .i64 0,.slice Option.none 0 0,.int .i64 0,.int .i64 0,.bool false]),
 (190,.struct [(0,1,false),(1,1,false),(2,1,false)] [.string ByteArray.empty,.int .i64 0,.bool false]),
 (199,.one (.pointer Option.none)),
 (201,.struct [(0,1,false),(1,1,false)] [.pointer Option.none,.slice Option.none 0 0]),
 (203,.one (.nilIface)),
 (215,.struct [(0,1,false),(1,1,false),(2,1,false),(3,1,false)] [.pointer Option.none,.string ByteArray.empty,.slice Option.none 0 0,.bool false]),
 (222,.one (.pointer Option.none)),
 (241,.one (.pointer Option.none)),
 (251,.one (.nilFunc)),
 (258,.array 24 5 1 [.int .u8 0,.int .u8 0,.int .u8 0,.int .u8 0,.int .u8 0,.int .u8 0,.int .u8 0,.int .u8 0,.int .u8 0,.int .u8 0,.int .u8 0,.int .u8 0,.int .u8 0,.int .u8 0,.int .u8 0,.int .u8 0,.int .u8 0,.int .u8 0,.int .u8 0,.int .u8 0,.int .u8 0,.int .u8 0,.int .u8 0,.int .u8 0]),
 (259,.int .u64),
 (264,.one (.pointer Option.none)),
 (268,.int .u64),
 (275,.one (.nilFunc)),
 (289,.array 20 259 1 [.int .u64 0,.int .u64 0,.int .u64 0,.int .u64 0,.int .u64 0,.int .u64 0,.int .u64 0,.int .u64 0,.int .u64 0,.int .u64 0,.int .u64 0,.int .u64 0,.int .u64 0,.int .u64 0,.int .u64 0,.int .u64 0,.int .u64 0,.int .u64 0,.int .u64 0,.int .u64 0]),
 (290,.int .u32),
 (291,.array 65 5 1 [.int .u8 0,.int .u8 0,.int .u8 0,.int .u8 0,.int .u8 0,.int .u8 0,.int .u8 0,.int .u8 0,.int .u8 0,.int .u8 0,.int .u8 0,.int .u8 0,.int .u8 0,.int .u8 0,.int .u8 0,.int .u8 0,.int .u8 0,.int .u8 0,.int .u8 0,.int .u8 0,.int .u8 0,.int .u8 0,.int .u8 0,.int .u8 0,.int .u8 0,.int .u8 0,.int .u8 0,.int .u8 0,.int .u8 0,.int .u8 0,.int .u8 0,.int .u8 0,.int .u8 0,.int .u8 0,.int .u8 0,.int .u8 0,.int .u8 0,.int .u8 0,.int .u8 0,.int .u8 0,.int .u8 0,.int .u8 0,.int .u8 0,.int .u8 0,.int .u8 0,.int .u8 0,.int .u8 0,.int .u8 0,.int .u8 0,.int .u8 0,.int .u8 0,.int .u8 0,.int .u8 0,.int .u8 0,.int .u8 0,.int .u8 0,.int .u8 0,.int .u8 0,.int .u8 0,.int .u8 0,.int .u8 0,.int .u8 0,.int .u8 0,.int .u8 0,.int .u8 0]),
 (293,.int .i64),
 (296,.one (.pointer Option.none)),
 (302,.one (.nilFunc)),
 (311,.struct [(0,1,false),(1,1,false),(2,1,false)] [.string ByteArray.empty,.string ByteArray.empty,.nilIface]),
 (315,.array 32 5 1 [.int .u8 0,.int .u8 0,.int .u8 0,.int .u8 0,.int .u8 0,.int .u8 0,.int .u8 0,.int .u8 0,.int .u8 0,.int .u8 0,.int .u8 0,.int .u8 0,.int .u8 0,.int .u8 0,.int .u8 0,.int .u8 0,.int .u8 0,.int .u8 0,.int .u8 0,.int .u8 0,.int .u8 0,.int .u8 0,.int .u8 0,.int .u8 0,.int .u8 0,.int .u8 0,.int .u8 0,.int .u8 0,.int .u8 0,.int .u8 0,.int .u8 0,.int .u8 0]),
 (316,.array 64 5 1 [.int .u8 0,.int .u8 0,.int .u8 0,.int .u8 0,.int .u8 0,.int .u8 0,.int .u8 0,.int .u8 0,.int .u8 0,.int .u8 0,.int .u8 0,.int .u8 0,.int .u8 0,.int .u8 0,.int .u8 0,.int .u8 0,.int .u8 0,.int .u8 0,.int .u8 0,.int .u8 0,.int .u8 0,.int .u8 0,.int .u8 0,.int .u8 0,.int .u8 0,.int .u8 0,.int .u8 0,.int .u8 0,.int .u8 0,.int .u8 0,.int .u8 0,.int .u8 0,.int .u8 0,.int .u8 0,.int .u8 0,.int .u8 0,.int .u8 0,.int .u8 0,.int .u8 0,.int .u8 0,.int .u8 0,.int .u8 0,.int .u8 0,.int .u8 0,.int .u8 0,.int .u8 0,.int .u8 0,.int .u8 0,.int .u8 0,.int .u8 0,.int .u8 0,.int .u8 0,.int .u8 0,.int .u8 0,.int .u8 0,.int .u8 0,.int .u8 0,.int .u8 0,.int .u8 0,.int .u8 0,.int .u8 0,.int .u8 0,.int .u8 0,.int .u8 0]),
 (317,.one (.pointer Option.none)),
 (319,.struct [(0,1,false)] [.string ByteArray.empty])]
def fnl:List Nat:=[3,4,5,6,7,8,9,10,11,12,13,14,15,16,17,18,19,20,21,22,23,24,25,26,27,28,29,30,31,32,33,34,35,36,37,38,39,40,41,42,43,44,45,46,47,48,49,50,51,52,53,54,55,56,57,58,59,60,61,62,63,64,65,66,67,68,69,70,71,72,73,74,75,76,77,78,79,80,81,82,83,84,85,86,87,88,89,90,91,92,93,94,95,96,97,98,99,100,101,102,103,104,105,106,107,108,109,110,111,112,113,114,115,116,117,118,119,120,121,122,123,124,125,126,127,128,129,130,131,132,133,134,135,136,137,138,139,140,141,142,143,144,145,146,147,148,149,150,151,152,153,154,155,156,157,158,159,160,161,162,163,164,165,166,167,168,169,170,171,172,173,174,175,176,177,178,179,180,181,182,183,184,185,186,187,188,189,190,191,192,193,194,195,196,197,200,201,202,203,204,205,206,207,208,209,210,211,212,213,214,215,216,217,218,219,220,221,222,223,224,225,226,228,229,232,233,234,235,236,237,238,239,240,241,242,243,245,246,247,248,249,250,251,252,253,254,255,256,257,258,259,260,261,262,263,264,265,266,267,268,270,271,272,273,274,275,276,277,278,279,280,281,282,283,284,285]
def lay:Lay:=⟨B0b tys,B0c fnl⟩
theorem B7G:B5f Tryz.prog tys:=⟨
 ⟨Tryz.underlying2,I2 (by kernel_rfl)⟩,
 ⟨Tryz.underlying3,I2 (by kernel_rfl)⟩,
 ⟨Tryz.underlying4,I2 (by kernel_rfl)⟩,
 ⟨Tryz.underlying5,I2 (by kernel_rfl)⟩,
 ⟨Tryz.underlying9,I2 (by kernel_rfl)⟩,
 ⟨⟨_,Tryz.underlying20,rfl⟩,I2 (by kernel_rfl),rfl⟩,
 ⟨Tryz.underlying21,I2 (by kernel_rfl)⟩,
 ⟨Tryz.underlying22,I2 (by kernel_rfl)⟩,
 ⟨⟨_,Tryz.underlying24,fs_ (by kernel_rfl)⟩,I2 (by kernel_rfl)⟩,
 ⟨Tryz.underlying25,I2 (by kernel_rfl),A3z (by kernel_rfl)⟩,
 ⟨⟨_,Tryz.underlying27,fs_ (by kernel_rfl)⟩,I2 (by kernel_rfl)⟩,
 ⟨Tryz.underlying28,I2 (by kernel_rfl),A3z (by kernel_rfl)⟩,
 ⟨Tryz.underlying29,I2 (by kernel_rfl),A3z (by kernel_rfl)⟩,
 ⟨Tryz.underlying30,I2 (by kernel_rfl),A3z (by kernel_rfl)⟩,
 ⟨Tryz.underlying31,I2 (by kernel_rfl),A3z (by kernel_rfl)⟩,
 ⟨⟨_,Tryz.underlying33,fs_ (by kernel_rfl)⟩,I2 (by kernel_rfl)⟩,
 ⟨⟨_,Tryz.underlying35,fs_ (by kernel_rfl)⟩,I2 (by kernel_rfl)⟩,
 ⟨Tryz.underlying45,I2 (by kernel_rfl),A3z (by kernel_rfl)⟩,
 ⟨Tryz.underlying48,I2 (by kernel_rfl),A3z (by kernel_rfl)⟩,
 ⟨⟨_,Tryz.underlying49,rfl⟩,I2 (by kernel_rfl),rfl⟩,
 ⟨Tryz.underlying51,I2 (by kernel_rfl),A3z (by kernel_rfl)⟩,
 ⟨⟨_,Tryz.underlying53,fs_ (by kernel_rfl)⟩,I2 (by kernel_rfl)⟩,
 ⟨⟨_,Tryz.underlying58,rfl⟩,I2 (by kernel_rfl),rfl⟩,
 ⟨⟨_,Tryz.underlying60,fs_ (by kernel_rfl)⟩,I2 (by kernel_rfl)⟩,
 ⟨Tryz.underlying65,I2 (by kernel_rfl),A3z (by kernel_rfl)⟩,
 ⟨⟨_,Tryz.underlying66,rfl⟩,I2 (by kernel_rfl),rfl⟩,
 ⟨⟨_,Tryz.underlying69,rfl⟩,I2 (by kernel_rfl),rfl⟩,
 ⟨⟨_,Tryz.underlying75,rfl⟩,I2 (by kernel_rfl),rfl⟩,
 ⟨Tryz.underlying77,I2 (by kernel_rfl),A3z (by kernel_rfl)⟩,
 ⟨⟨_,Tryz.underlying79,fs_ (by kernel_rfl)⟩,I2 (by kernel_rfl)⟩,
 ⟨Tryz.underlying83,I2 (by kernel_rfl),A3z (by kernel_rfl)⟩,
 ⟨⟨_,Tryz.underlying85,fs_ (by kernel_rfl)⟩,I2 (by kernel_rfl)⟩,
 ⟨Tryz.underlying88,I2 (by kernel_rfl),A3z (by kernel_rfl)⟩,
 ⟨⟨_,Tryz.underlying90,fs_ (by kernel_rfl)⟩,I2 (by kernel_rfl)⟩,
 ⟨Tryz.underlying98,I2 (by kernel_rfl),A3z (by kernel_rfl)⟩,
 ⟨⟨_,Tryz.underlying100,rfl⟩,I2 (by kernel_rfl),rfl⟩,
 ⟨⟨_,Tryz.underlying102,fs_ (by kernel_rfl)⟩,I2 (by kernel_rfl)⟩,
 ⟨⟨_,Tryz.underlying104,fs_ (by kernel_rfl)⟩,I2 (by kernel_rfl)⟩,
 ⟨⟨_,Tryz.underlying106,fs_ (by kernel_rfl)⟩,I2 (by kernel_rfl)⟩,
 ⟨⟨_,Tryz.underlying111,rfl⟩,I2 (by kernel_rfl),rfl⟩,
 ⟨⟨_,Tryz.underlying121,rfl⟩,I2 (by kernel_rfl),rfl⟩,
 ⟨Tryz.underlying122,I2 (by kernel_rfl),A3z (by kernel_rfl)⟩,
 ⟨⟨_,Tryz.underlying130,rfl⟩,I2 (by kernel_rfl),rfl⟩,
 ⟨⟨_,Tryz.underlying132,rfl⟩,I2 (by kernel_rfl),rfl⟩,
 ⟨Tryz.underlying137,I2 (by kernel_rfl),A3z (by kernel_rfl)⟩,
 ⟨⟨_,Tryz.underlying146,rfl⟩,I2 (by kernel_rfl),rfl⟩,
 ⟨Tryz.underlying147,I2 (by kernel_rfl),A3z (by kernel_rfl)⟩,
 ⟨⟨_,Tryz.underlying148,rfl⟩,I2 (by kernel_rfl),rfl⟩,
 ⟨Tryz.underlying149,I2 (by kernel_rfl),A3z (by kernel_rfl)⟩,
 ⟨⟨_,Tryz.underlying150,rfl⟩,I2 (by kernel_rfl),rfl⟩,
 ⟨⟨_,Tryz.underlying154,rfl⟩,I2 (by kernel_rfl),rfl⟩,
 ⟨⟨_,Tryz.underlying156,rfl⟩,I2 (by kernel_rfl),rfl⟩,
 ⟨⟨_,Tryz.underlying157,rfl⟩,I2 (by kernel_rfl),rfl⟩,
 ⟨⟨_,Tryz.underlying166,rfl⟩,I2 (by kernel_rfl),rfl⟩,
 ⟨⟨_,Tryz.underlying168,rfl⟩,I2 (by kernel_rfl),rfl⟩,
 ⟨⟨_,Tryz.underlying171,rfl⟩,I2 (by kernel_rfl),rfl⟩,
 ⟨⟨_,Tryz.underlying173,rfl⟩,I2 (by kernel_rfl),rfl⟩,
 ⟨⟨_,Tryz.underlying174,rfl⟩,I2 (by kernel_rfl),rfl⟩,
 ⟨⟨_,Tryz.underlying176,fs_ (by kernel_rfl)⟩,I2 (by kernel_rfl)⟩,
 ⟨⟨_,Tryz.underlying177,rfl⟩,I2 (by kernel_rfl),rfl⟩,
 ⟨⟨_,Tryz.underlying181,fs_ (by kernel_rfl)⟩,I2 (by kernel_rfl)⟩,
 ⟨⟨_,Tryz.underlying183,fs_ (by kernel_rfl)⟩,I2 (by kernel_rfl)⟩,
 ⟨⟨_,Tryz.underlying190,fs_ (by kernel_rfl)⟩,I2 (by kernel_rfl)⟩,
 ⟨⟨_,Tryz.underlying199,rfl⟩,I2 (by kernel_rfl),rfl⟩,
 ⟨⟨_,Tryz.underlying201,fs_ (by kernel_rfl)⟩,I2 (by kernel_rfl)⟩,
 ⟨⟨_,Tryz.underlying203,rfl⟩,I2 (by kernel_rfl),rfl⟩,
 ⟨⟨_,Tryz.underlying215,fs_ (by kernel_rfl)⟩,I2 (by kernel_rfl)⟩,
 ⟨⟨_,Tryz.underlying222,rfl⟩,I2 (by kernel_rfl),rfl⟩,
 ⟨⟨_,Tryz.underlying241,rfl⟩,I2 (by kernel_rfl),rfl⟩,
 ⟨⟨_,Tryz.underlying251,rfl⟩,I2 (by kernel_rfl),rfl⟩,
 ⟨Tryz.underlying258,I2 (by kernel_rfl),A3z (by kernel_rfl)⟩,
 ⟨Tryz.underlying259,I2 (by kernel_rfl)⟩,
 ⟨⟨_,Tryz.underlying264,rfl⟩,I2 (by kernel_rfl),rfl⟩,
 ⟨Tryz.underlying268,I2 (by kernel_rfl)⟩,
 ⟨⟨_,Tryz.underlying275,rfl⟩,I2 (by kernel_rfl),rfl⟩,
 ⟨Tryz.underlying289,I2 (by kernel_rfl),A3z (by kernel_rfl)⟩,
 ⟨Tryz.underlying290,I2 (by kernel_rfl)⟩,
 ⟨Tryz.underlying291,I2 (by kernel_rfl),A3z (by kernel_rfl)⟩,
 ⟨Tryz.underlying293,I2 (by kernel_rfl)⟩,
 ⟨⟨_,Tryz.underlying296,rfl⟩,I2 (by kernel_rfl),rfl⟩,
 ⟨⟨_,Tryz.underlying302,rfl⟩,I2 (by kernel_rfl),rfl⟩,
 ⟨⟨_,Tryz.underlying311,fs_ (by kernel_rfl)⟩,I2 (by kernel_rfl)⟩,
 ⟨Tryz.underlying315,I2 (by kernel_rfl),A3z (by kernel_rfl)⟩,
 ⟨Tryz.underlying316,I2 (by kernel_rfl),A3z (by kernel_rfl)⟩,
 ⟨⟨_,Tryz.underlying317,rfl⟩,I2 (by kernel_rfl),rfl⟩,
 ⟨⟨_,Tryz.underlying319,fs_ (by kernel_rfl)⟩,I2 (by kernel_rfl)⟩,trivial⟩
theorem B7H:B5g Tryz.prog fnl:=⟨Tryz.call3,Tryz.call4,Tryz.call5,Tryz.call6,Tryz.call7,Tryz.call8,Tryz.call9,Tryz.call10,Tryz.call11,Tryz.call12,Tryz.call13,Tryz.call14,Tryz.call15,Tryz.call16,Tryz.call17,Tryz.call18,Tryz.call19,Tryz.call20,Tryz.call21,Tryz.call22,Tryz.call23,Tryz.call24,Tryz.call25,Tryz.call26,Tryz.call27,Tryz.call28,Tryz.call29,Tryz.call30,Tryz.call31,Tryz.call32,Tryz.call33,Tryz.call34,Tryz.call35,Tryz.call36,Tryz.call37,Tryz.call38,Tryz.call39,Tryz.call40,Tryz.call41,Tryz.call42,Tryz.call43,Tryz.call44,Tryz.call45,Tryz.call46,Tryz.call47,Tryz.call48,Tryz.call49,Tryz.call50,Tryz.call51,Tryz.call52,Tryz.call53,Tryz.call54,Tryz.call55,Tryz.call56,Tryz.call57,Tryz.call58,Tryz.call59,Tryz.call60,Tryz.call61,Tryz.call62,Tryz.call63,Tryz.call64,Tryz.call65,Tryz.call66,Tryz.call67,Tryz.call68,Tryz.call69,Tryz.call70,Tryz.call71,Tryz.call72,Tryz.call73,Tryz.call74,Tryz.call75,Tryz.call76,Tryz.call77,Tryz.call78,Tryz.call79,Tryz.call80,Tryz.call81,Tryz.call82,Tryz.call83,Tryz.call84,Tryz.call85,Tryz.call86,Tryz.call87,Tryz.call88,Tryz.call89,Tryz.call90,Tryz.call91,Tryz.call92,Tryz.call93,Tryz.call94,Tryz.call95,Tryz.call96,Tryz.call97,Tryz.call98,Tryz.call99,Tryz.call100,Tryz.call101,Tryz.call102,Tryz.call103,Tryz.call104,Tryz.call105,Tryz.call106,Tryz.call107,Tryz.call108,Tryz.call109,Tryz.call110,Tryz.call111,Tryz.call112,Tryz.call113,Tryz.call114,Tryz.call115,Tryz.call116,Tryz.call117,Tryz.call118,Tryz.call119,Tryz.call120,Tryz.call121,Tryz.call122,Tryz.call123,Tryz.call124,Tryz.call125,Tryz.call126,Tryz.call127,Tryz.call128,Tryz.call129,Tryz.call130,Tryz.call131,Tryz.call132,Tryz.call133,Tryz.call134,Tryz.call135,Tryz.call136,Tryz.call137,Tryz.call138,Tryz.call139,Tryz.call140,Tryz.call141,Tryz.call142,Tryz.call143,Tryz.call144,Tryz.call145,Tryz.call146,Tryz.call147,Tryz.call148,Tryz.call149,Tryz.call150,Tryz.call151,Tryz.call152,Tryz.call153,Tryz.call154,Tryz.call155,Tryz.call156,Tryz.call157,Tryz.call158,Tryz.call159,Tryz.call160,Tryz.call161,Tryz.call162,Tryz.call163,Tryz.call164,Tryz.call165,Tryz.call166,Tryz.call167,Tryz.call168,Tryz.call169,Tryz.call170,Tryz.call171,Tryz.call172,Tryz.call173,Tryz.call174,Tryz.call175,Tryz.call176,Tryz.call177,Tryz.call178,Tryz.call179,Tryz.call180,Tryz.call181,Tryz.call182,Tryz.call183,Tryz.call184,Tryz.call185,Tryz.call186,Tryz.call187,Tryz.call188,Tryz.call189,Tryz.call190,Tryz.call191,Tryz.call192,Tryz.call193,Tryz.call194,Tryz.call195,Tryz.call196,Tryz.call197,Tryz.call200,Tryz.call201,Tryz.call202,Tryz.call203,Tryz.call204,Tryz.call205,Tryz.call206,Tryz.call207,Tryz.call208,Tryz.call209,Tryz.call210,Tryz.call211,Tryz.call212,Tryz.call213,Tryz.call214,Tryz.call215,Tryz.call216,Tryz.call217,Tryz.call218,Tryz.call219,Tryz.call220,Tryz.call221,Tryz.call222,Tryz.call223,Tryz.call224,Tryz.call225,Tryz.call226,Tryz.call228,Tryz.call229,Tryz.call232,Tryz.call233,Tryz.call234,Tryz.call235,Tryz.call236,Tryz.call237,Tryz.call238,Tryz.call239,Tryz.call240,Tryz.call241,Tryz.call242,Tryz.call243,Tryz.call245,Tryz.call246,Tryz.call247,Tryz.call248,Tryz.call249,Tryz.call250,Tryz.call251,Tryz.call252,Tryz.call253,Tryz.call254,Tryz.call255,Tryz.call256,Tryz.call257,Tryz.call258,Tryz.call259,Tryz.call260,Tryz.call261,Tryz.call262,Tryz.call263,Tryz.call264,Tryz.call265,Tryz.call266,Tryz.call267,Tryz.call268,Tryz.call270,Tryz.call271,Tryz.call272,Tryz.call273,Tryz.call274,Tryz.call275,Tryz.call276,Tryz.call277,Tryz.call278,Tryz.call279,Tryz.call280,Tryz.call281,Tryz.call282,Tryz.call283,Tryz.call284,Tryz.call285,trivial⟩
theorem lay_ok:Lay.Ok Tryz.prog lay:=Go.Vc.lay_ok B7G B7H
theorem vE {k:Nat} {fn:Go.Func} {c:Go.Code} {args:List Go.Value} {w:Go.World} {R:Go.Ending->Go.World->Prop} (hf:Tryz.prog.funcs[k]?=some fn) (h:A27 Tryz.prog lay c (A7J args) w (fnK lay fn.results R)) (hb:fn.body=some c:=by rfl) (ha:Nat.ble args.length fn.ntmps=true:=by kernel_rfl) (hc:R2 fn.ntmps c=true:=by kernel_rfl):Go.Calls Tryz.prog k args.toArray w R:=A8M lay_ok hf hb ha hc h
theorem vD {id:Nat} {ops:List Go.Oper} {f:Fr} {w:Go.World} {K:Fr->Go.World->Prop} (s:Sched) (C:Go.World->Prop) (hC:C w.drew) (h:dV Tryz.prog lay ops C s f w.drew K) (hm:Tryz.prog.follows .mixedOrders=true:=by kernel_rfl) (hs:A7Q ops.toArray s=true:=by kernel_rfl):Drawn Tryz.prog id ops.toArray f w K:=B8k lay_ok hm s C hs hC h
end Go.Proofs.YtfekddndgakneaaGreatDoor
namespace Go.Proofs.YtfekddndgakneaaGreatDoor
open Go.Vc Go.RowKit
def A4K (n:Int):Bool:=(decide (97<=n)&&decide (n<=122))||(decide (48<=n)&&decide (n<=57))||n==46||n==45||n==95||n==47
theorem A9S (n:Int) (w:World):Calls Tryz.prog 107 #[.int .u8 n] w (C7 (.bool (A4K n)) w):=by
 refine vE Tryz.func107 ?_
 repeat' (first | refine B6 (by assumption) ?_ | refine B4 (by assumption) ?_ | refine J7 (by decide) ?_ | refine R4 (fun _=>?_) (fun _=>?_))
 all_goals refine⟨B7 ?_,Below.refl _ _⟩
 all_goals simp only [A4K, *]
 all_goals rfl
def B3c (c:UInt8):Bool:=A4K (c.toNat:Int)
def B67 (l:List UInt8):Bool:=l.all B3c&&decide (1<=l.length)&&decide (l.length<=40)
def A54 (s:ByteArray):Bool:=B67 s.data.toList
theorem L0 (s:ByteArray):s.data.toList.length=s.size:=by rw [Array.length_toList];rfl
theorem A8N {α:Type} (p:α->Bool) (l:List α) (k:Nat) (d:α) (hk:k<l.length) (h:(l.take k).all p=true):(l.take (k+1)).all p=p (l.getD k d):=by
 rw [List.take_succ_eq_append_getElem hk,List.all_append,h]
 simp [List.getD_eq_getElem?_getD,List.getElem?_eq_getElem hk]
theorem A1K {α:Type} (p:α->Bool) (l:List α) (k:Nat) (d:α) (hk:k<l.length) (h:p (l.getD k d)=false):l.all p=false:=by
 rw [List.all_eq_false]
 refine⟨l[k],List.getElem_mem hk,?_⟩
 rw [List.getD_eq_getElem?_getD,List.getElem?_eq_getElem hk] at h
 simpa using h
theorem F1 (a b:Int) (h0 : -9223372036854775808<=a+b) (h1:a+b<=9223372036854775807):IntKind.i64.wrap (a+b)=a+b:=IntWalk.i64_in _ ⟨h0,h1⟩
theorem A42 (s:ByteArray) (hs:s.size<=9223372036854775807) (w:World):Calls Tryz.prog 62 #[.string s] w (C7 (.bool (A54 s)) w):=by
 refine vE Tryz.func62 ?_
 refine⟨Nat,fun k=>[(0,.string s),(2,.bool false),(5,.int .i64 s.size),(6,.int .i64 k)],fun k w'=>k<=s.size/\(s.data.toList.take k).all B3c=true/\Below w.heap.size w w',fun k _=>s.size-k,0,
  ⟨rfl,rfl,rfl,rfl,trivial⟩,⟨Nat.zero_le _,by simp,Below.refl _ _⟩,?_⟩
 rintro k w' u ⟨hk,ha,hb⟩
 have hln:=L0 s
 by_cases hlt:k<s.size
 ·refine B6 (by simpa using hlt) ?_
  refine⟨⟨by omega,by omega⟩,?_⟩
  refine C2 (A9S _ _) ?_
  intro w1 hb1
  have hb2:=hb.trans (hb1.mono hb.size)
  have ha2:=A8N B3c s.data.toList k 0 (by omega) ha
  cases hl:B3c (s.data.toList.getD k 0)
  ·refine B6 (by rw [<-Bool.not_false];exact congrArg _ hl) ?_
   refine⟨B7 ?_,hb2⟩
   unfold A54 B67
   rw [A1K B3c _ k 0 (by omega) hl]
   rfl
  ·refine B4 (by rw [<-Bool.not_true];exact congrArg _ hl) ?_
   refine⟨k+1,⟨rfl,rfl,rfl,?_,trivial⟩,⟨hlt,by rw [ha2,hl],hb2⟩,by show s.size-(k+1)<s.size-k;omega⟩
   show Value.int .i64 (IntKind.i64.wrap ((k:Int)+1))=_
   rw [F1 _ _ (by omega) (by omega)]
   rfl
 ·refine B4 (by simp;omega) ?_
  have hks:k=s.size:=by omega
  rw [List.take_of_length_le (by omega)] at ha
  repeat' (first | refine B6 (by assumption) ?_ | refine B4 (by assumption) ?_ | refine J7 (by decide) ?_ | refine R4 (fun _=>?_) (fun _=>?_))
  all_goals refine⟨B7 ?_,hb⟩
  all_goals unfold A54 B67
  all_goals rw [ha,hln,Bool.eq_iff_iff]
  all_goals (rename_i h;simp at h ⊢;omega)
def C0 (n:Int):Int:=if n<4294967296\/25769803776<=n\/n % 4294967296=0 then 0 else n / 4294967296
theorem U2 (n:Int) (w:World):Calls Tryz.prog 63 #[.int .i64 n] w (C7 (.int .i64 (C0 n)) w):=by
 refine vE Tryz.func63 ?_
 repeat' (first | refine B6 (by assumption) ?_ | refine B4 (by assumption) ?_ | refine J7 (by decide) ?_ | refine R4 (fun _=>?_) (fun _=>?_))
 all_goals refine⟨U5 ?_,Below.refl _ _⟩
 all_goals unfold C0
 all_goals simp only [decide_eq_true_eq,decide_eq_false_iff_not,beq_iff_eq,beq_eq_false_iff_ne] at*
 ·rw [if_pos (.inl (by assumption))]
 ·rw [if_pos (.inr (.inl (by assumption)))]
 ·rename_i h1 h2 h3
  rw [Int.tmod_eq_emod_of_nonneg (by omega)] at h3
  rw [if_pos (.inr (.inr h3))]
 ·rename_i h1 h2 h3
  rw [Int.tmod_eq_emod_of_nonneg (by omega)] at h3
  rw [if_neg (by omega),Int.tdiv_eq_ediv_of_nonneg (by omega)]
  exact IntWalk.i64_in _ ⟨by omega,by omega⟩
def B5j (a n:Int):Int:=if a<1\/5<a\/n<1\/4294967296<=n then 0 else a*4294967296+n
theorem B3d (a n:Int) (w:World):Calls Tryz.prog 191 #[.int .i64 a,.int .i64 n] w (C7 (.int .i64 (B5j a n)) w):=by
 refine vE Tryz.func191 ?_
 repeat' (first | refine B6 (by assumption) ?_ | refine B4 (by assumption) ?_ | refine J7 (by decide) ?_ | refine R4 (fun _=>?_) (fun _=>?_))
 all_goals refine⟨U5 ?_,Below.refl _ _⟩
 all_goals unfold B5j
 all_goals simp only [decide_eq_true_eq,decide_eq_false_iff_not] at*
 all_goals first
  | (rw [if_pos (by omega)])
  | (rw [if_neg (by omega)];simp only [IntKind.wrap_i64];omega)
theorem A3E (n:Int) (w:World) (h0 : -9223372036854775808<=n) (h1:n<=9223372036854775807):Calls Tryz.prog 68 #[.int .i64 n] w (C7 (.int .i64 (C0 n)) w):=by
 refine vE Tryz.func68 ?_
 refine⟨Int,fun m=>[(0,.int .i64 n),(3,.int .i64 m)],fun m w'=>1<=m/\m<=6/\(∀ j:Int,1<=j->j<m->¬ (j*4294967296<n/\n<j*4294967296+4294967296))/\w'=w,fun m _=>(6-m).toNat,1,
  ⟨rfl,rfl,trivial⟩,⟨by omega,by omega,fun j h1 h2=>by omega,rfl⟩,?_⟩
 rintro m w' u ⟨hm1,hm2,ha,rfl⟩
 have e1:IntKind.i64.wrap (m*4294967296)=m*4294967296:=IntWalk.i64_in _ ⟨by omega,by omega⟩
 have e2:IntKind.i64.wrap (m*4294967296+4294967296)=m*4294967296+4294967296:=IntWalk.i64_in _ ⟨by omega,by omega⟩
 by_cases hlt:m<=5
 ·refine dt hlt ?_
  by_cases hin:m*4294967296<n/\n<m*4294967296+4294967296
  ·refine dt (by rw [e1];exact hin.1) ?_
   refine dt (by rw [e1,e2];exact hin.2) ?_
   refine⟨U5 ?_,Below.refl _ _⟩
   unfold C0
   rw [if_neg (by omega)]
   omega
  ·have next:∀ j:Int,1<=j->j<m+1->¬ (j*4294967296<n/\n<j*4294967296+4294967296):=by
    intro j hj1 hj2
    by_cases e:j=m
    ·subst e;exact hin
    ·exact ha j hj1 (by omega)
   have e3:IntKind.i64.wrap (m+1)=m+1:=F1 _ _ (by omega) (by omega)
   by_cases h2:m*4294967296<n
   ·refine dt (by rw [e1];exact h2) ?_
    refine df (by rw [e1,e2];omega) ?_
    exact⟨m+1,⟨rfl,congrArg _ e3,trivial⟩,⟨by omega,by omega,next,rfl⟩,by show (6-(m+1)).toNat<(6-m).toNat;omega⟩
   ·refine df (by rw [e1];exact h2) ?_
    exact⟨m+1,⟨rfl,congrArg _ e3,trivial⟩,⟨by omega,by omega,next,rfl⟩,by show (6-(m+1)).toNat<(6-m).toNat;omega⟩
 ·refine df hlt ?_
  refine⟨U5 ?_,Below.refl _ _⟩
  unfold C0
  have a1:=ha 1 (by omega) (by omega)
  have a2:=ha 2 (by omega) (by omega)
  have a3:=ha 3 (by omega) (by omega)
  have a4:=ha 4 (by omega) (by omega)
  have a5:=ha 5 (by omega) (by omega)
  rw [if_pos (by omega)]
theorem A8O (s:ByteArray) (hs:s.size<=9223372036854775807) (w:World):Calls Tryz.prog 69 #[.string s] w (C7 (.bool (A54 s)) w):=by
 refine vE Tryz.func69 ?_
 refine⟨Nat,fun k=>[(0,.string s),(3,.int .i64 k)],fun k w'=>k<=s.size/\(s.data.toList.take k).all B3c=true/\w'=w,fun k _=>s.size-k,0,
  ⟨rfl,rfl,trivial⟩,⟨Nat.zero_le _,by simp,rfl⟩,?_⟩
 rintro k w' u ⟨hk,ha,rfl⟩
 have hln:=L0 s
 by_cases hlt:k<s.size
 ·refine dt (by omega) ?_
  refine⟨⟨by omega,by omega⟩,?_⟩
  have ha2:=A8N B3c s.data.toList k 0 (by omega) ha
  have e3:IntKind.i64.wrap ((k:Int)+1)=((k+1:Nat):Int):=by rw [F1 _ _ (by omega) (by omega)];rfl
  have no:=A1K B3c s.data.toList k 0 (by omega)
  have hc:∀ n:Int,((s.data.toList.getD (k:Int).toNat 0).toNat:Int)=n->A4K n=B3c (s.data.toList.getD k 0):=fun n h=>by rw [<-h];rfl
  generalize ((s.data.toList.getD (k:Int).toNat 0).toNat:Int)=n at*
  have hc:=hc n rfl
  repeat' (first | refine B6 (by assumption) ?_ | refine B4 (by assumption) ?_ | refine J7 (by decide) ?_ | refine R4 (fun _=>?_) (fun _=>?_))
  all_goals first
   | (
     refine⟨k+1,⟨rfl,congrArg _ e3,trivial⟩,⟨hlt,?_,rfl⟩,(by show s.size-(k+1)<s.size-k;omega)⟩
     rw [ha2,<-hc])
   | (
     refine⟨B7 ?_,Below.refl _ _⟩
     unfold A54 B67
     rw [no (by rw [<-hc];simp only [A4K,bne,Bool.not_eq_true',Bool.not_eq_false',decide_eq_true_eq,decide_eq_false_iff_not,beq_iff_eq,beq_eq_false_iff_ne] at *;simp;omega)]
     rfl)
  all_goals simp only [A4K,bne,Bool.not_eq_true',Bool.not_eq_false',decide_eq_true_eq,decide_eq_false_iff_not,beq_iff_eq,beq_eq_false_iff_ne] at*
  all_goals simp
  all_goals omega
 ·refine df (by omega) ?_
  rw [List.take_of_length_le (by omega)] at ha
  repeat' (first | refine B6 (by assumption) ?_ | refine B4 (by assumption) ?_ | refine J7 (by decide) ?_ | refine R4 (fun _=>?_) (fun _=>?_))
  all_goals refine⟨B7 ?_,Below.refl _ _⟩
  all_goals unfold A54 B67
  all_goals rw [ha,hln,Bool.eq_iff_iff]
  all_goals (rename_i h;simp at h ⊢;omega)
theorem B5k (s:ByteArray) (n:Int) (w:World) (h0:0<=n) (hs:s.size<=9223372036854775807):Calls Tryz.prog 18 #[.string s,.int .i64 n] w (C7 (.string (s.extract 0 (min s.size n.toNat))) w):=by
 refine vE Tryz.func18 ?_
 have e:(0:Int).toNat=0:=rfl
 by_cases h:n<s.size
 ·refine⟨⟨?_,?_,?_⟩,?_⟩
  ·omega
  ·show (0:Int)<=if n<(s.size:Int) then n else (s.size:Int)
   rw [if_pos h];exact h0
  ·show (if n<(s.size:Int) then n else (s.size:Int))<=_
   rw [if_pos h];omega
  ·refine⟨congrArg (fun x=>Ending.returned (.string (s.extract 0 x))) ?_,Below.refl _ _⟩
   show (if n<(s.size:Int) then n else (s.size:Int)).toNat=_
   rw [if_pos h];omega
 ·refine⟨⟨?_,?_,?_⟩,?_⟩
  ·omega
  ·show (0:Int)<=if n<(s.size:Int) then n else (s.size:Int)
   rw [if_neg h];omega
  ·show (if n<(s.size:Int) then n else (s.size:Int))<=_
   rw [if_neg h];omega
  ·refine⟨congrArg (fun x=>Ending.returned (.string (s.extract 0 x))) ?_,Below.refl _ _⟩
   show (if n<(s.size:Int) then n else (s.size:Int)).toNat=_
   rw [if_neg h];omega
end Go.Proofs.YtfekddndgakneaaGreatDoor
namespace Go.Fl
open Ieee
theorem A43 (N k:Nat) (h:N≠0):(N*2 ^ k).log2=N.log2+k:=by
 have hp:0<2 ^ k:=Nat.two_pow_pos k
 have hne:N*2 ^ k≠0:=Nat.mul_ne_zero h (by omega)
 rw [Nat.log2_eq_iff hne]
 have h1:=Nat.log2_self_le h
 have h2:=Nat.lt_log2_self (n:=N)
 constructor
 ·rw [Nat.pow_add];exact Nat.mul_le_mul_right _ h1
 ·rw [show N.log2+k+1=(N.log2+1)+k from by omega,Nat.pow_add]
  exact Nat.mul_lt_mul_of_pos_right h2 hp
def A2g (N:Nat):Nat:=if N=0 then 0 else (N.log2+1022)*2 ^ 52+N*2 ^ (52-N.log2)
def dbl (n:Int):Nat:=if n<0 then 2 ^ 63+A2g n.natAbs else A2g n.natAbs
theorem B0v {N:Nat} (h:N≠0) (hN:N<2 ^ 53):N.log2<=52:=by
 have:=(Nat.log2_lt h).2 hN
 omega
theorem B9A {N:Nat} (h:N≠0) (hN:N<2 ^ 53):2 ^ 52<=N*2 ^ (52-N.log2)/\N*2 ^ (52-N.log2)<2 ^ 53:=by
 have hl:=B0v h hN
 have h1:=Nat.log2_self_le h
 have h2:=Nat.lt_log2_self (n:=N)
 constructor
 ·calc 2 ^ 52=2 ^ N.log2*2 ^ (52-N.log2):=by rw [<-Nat.pow_add];congr 1;omega
   _<=_:=Nat.mul_le_mul_right _ h1
 ·calc N*2 ^ (52-N.log2)<2 ^ (N.log2+1)*2 ^ (52-N.log2):=Nat.mul_lt_mul_of_pos_right h2 (Nat.two_pow_pos _)
   _=2 ^ 53:=by rw [<-Nat.pow_add];congr 1;omega
def Is (b:Nat) (n:Int):Prop:=∃ k:Nat,double.read b=.number (decide (n<0)) (n.natAbs*2 ^ k) (-(k:Int))
theorem sw:double.signWeight=2 ^ 63:=rfl
theorem bn:double.binade=2 ^ 52:=rfl
theorem ir:double.infRung=2047*2 ^ 52:=rfl
theorem lp:double.leastPlace = -1074:=rfl
theorem A6E (neg:Bool) (N:Nat) (h:N≠0) (hN:N<2 ^ 53):double.read (double.word neg (A2g N))=.number neg (N*2 ^ (52-N.log2)) (-((52-N.log2:Nat):Int)):=by
 obtain⟨f1,f2⟩:=B9A h hN
 have hl:=B0v h hN
 have hb:A2g N=(N.log2+1022)*2 ^ 52+N*2 ^ (52-N.log2):=if_neg h
 generalize hm:N*2 ^ (52-N.log2)=m at*
 have e1:(double.word neg (A2g N)) / double.signWeight % 2=neg.toNat/\(double.word neg (A2g N)) % double.signWeight=A2g N:=by
  rw [sw]
  unfold Format.word
  rw [sw]
  cases neg
  ·simp only [Bool.false_eq_true,if_false,Bool.toNat_false];omega
  ·simp only [if_true,Bool.toNat_true];omega
 unfold Format.read
 simp only [e1.1,e1.2]
 rw [bn,ir,lp,if_neg (by omega),if_pos (by omega)]
 have e2:A2g N % 2 ^ 52=m-2 ^ 52:=by omega
 have e3:A2g N / 2 ^ 52=N.log2+1023:=by omega
 rw [e2,e3]
 have e4:(neg.toNat==1)=neg:=by cases neg<;>rfl
 rw [e4]
 exact congr (congrArg (Datum.number neg) (by omega)) (by omega)
theorem B0w:double.read 0=.number false 0 (-1074):=by decide +kernel
theorem I5 (n:Int) (h:n.natAbs<2 ^ 53):Is (dbl n) n:=by
 unfold Is dbl
 by_cases h0:n=0
 ·obtain⟨K,hK⟩:∃ K:Nat,K=1074:=⟨1074,rfl⟩
  refine⟨K,?_⟩
  rw [if_neg (show ¬ n<0 by omega),show n.natAbs=0 from by omega,Nat.zero_mul,show A2g 0=0 from rfl,B0w,decide_eq_false (show ¬ n<0 by omega),hK]
  rfl
 ·have hne:n.natAbs≠0:=by omega
  refine⟨52-n.natAbs.log2,?_⟩
  by_cases hn:n<0
  ·rw [if_pos hn,decide_eq_true hn]
   exact A6E true _ hne h
  ·rw [if_neg hn,decide_eq_false hn]
   exact A6E false _ hne h
theorem A1L (n:Int) (k:Nat) (h:n.natAbs<2 ^ 53):double.write (.number (decide (n<0)) (n.natAbs*2 ^ k) (-(k:Int)))=dbl n:=by
 show double.nearest _ _ _=_
 unfold Format.nearest dbl
 by_cases h0:n=0
 ·subst h0
  simp [Format.word,A2g]
 ·have hne:n.natAbs≠0:=by omega
  generalize hN:n.natAbs=N at*
  have hl:=B0v hne h
  obtain⟨f1,f2⟩:=B9A hne h
  have hp:0<2 ^ k:=Nat.two_pow_pos k
  rw [if_neg (Nat.mul_ne_zero hne (by omega)),A43 N k hne,lp,bn,ir]
  have hlast:max (-(k:Int)+((N.log2+k:Nat):Int)-(double.fractionBits:Int)) (-1074)=(N.log2:Int)-52:=by
   have:(double.fractionBits:Int)=52:=rfl
   rw [this];omega
  simp only [hlast]
  have hcut:Toward.even.cut (decide (n<0)) ((N*2 ^ k) <<< (-(k:Int)-((N.log2:Int)-52)).toNat) ((N.log2:Int)-52 - -(k:Int)).toNat=N*2 ^ (52-N.log2):=by
   rcases Nat.lt_or_ge k (52-N.log2) with hk | hk
   ·rw [show ((N.log2:Int)-52 - -(k:Int)).toNat=0 from by omega,show (-(k:Int)-((N.log2:Int)-52)).toNat=52-N.log2-k from by omega,Nat.shiftLeft_eq,Nat.mul_assoc,<-Nat.pow_add,
     show k+(52-N.log2-k)=52-N.log2 from by omega]
    simp only [Toward.cut,Nat.zero_min,Nat.shiftLeft_zero,Nat.div_one,Nat.mod_one,Nat.mul_zero]
    simp
   ·rw [show (-(k:Int)-((N.log2:Int)-52)).toNat=0 from by omega,show ((N.log2:Int)-52 - -(k:Int)).toNat=k-(52-N.log2) from by omega,Nat.shiftLeft_zero]
    have hd:min (k-(52-N.log2)) ((N*2 ^ k).log2+2)=k-(52-N.log2):=by rw [A43 N k hne];omega
    have hs:N*2 ^ k=(N*2 ^ (52-N.log2))*2 ^ (k-(52-N.log2)):=by rw [Nat.mul_assoc,<-Nat.pow_add];congr 2;omega
    have hq:0<2 ^ (k-(52-N.log2)):=Nat.two_pow_pos _
    unfold Toward.cut
    simp only [hd,Nat.one_shiftLeft]
    rw [hs,Nat.mul_div_cancel _ hq,Nat.mul_mod_left]
    simp
  rw [hcut,show ((N.log2:Int)-52 - -1074).toNat=N.log2+1022 from by omega,Nat.min_eq_left (by omega)]
  unfold Format.word A2g
  rw [sw,if_neg hne]
  by_cases hn:n<0
  ·simp [hn]
  ·simp [hn]
theorem R5 (n:Int) (k u K:Nat) (h:k+u=K):signed (decide (n<0)) (n.natAbs*2 ^ k) u=n*2 ^ K:=by
 unfold signed
 have e:((n.natAbs*2 ^ k) <<< u:Nat)=n.natAbs*2 ^ K:=by rw [Nat.shiftLeft_eq,Nat.mul_assoc,<-Nat.pow_add,h]
 rw [e]
 have hc:((n.natAbs*2 ^ K:Nat):Int)=(n.natAbs:Int)*2 ^ K:=by rw [Int.natCast_mul,Int.natCast_pow];rfl
 rw [hc]
 by_cases hn:n<0
 ·rw [decide_eq_true hn,if_pos rfl,<-Int.neg_mul]
  congr 1;omega
 ·rw [decide_eq_false hn,if_neg (by simp)]
  congr 1;omega
theorem A7R (K:Nat):(0:Int)<2 ^ K:=Int.pow_pos (by decide)
theorem B7I (n:Int) (K:Nat):(n*2 ^ K<0)=(n<0):=by
 have hp:=A7R K
 apply propext
 constructor
 ·intro h
  by_cases h1:n<0
  ·exact h1
  ·exact absurd (Int.mul_nonneg (show 0<=n by omega) (Int.le_of_lt hp)) (by omega)
 ·intro h;exact Int.mul_neg_of_neg_of_pos h hp
theorem B0x (n:Int) (K:Nat):(n*2 ^ K).natAbs=n.natAbs*2 ^ K:=by
 rw [Int.natAbs_mul,Int.natAbs_pow];rfl
theorem B0y (n:Int) (K:Nat):decide (n*2 ^ K<0)=decide (n<0):=by
 rw [Bool.eq_iff_iff,decide_eq_true_iff,decide_eq_true_iff,B7I]
theorem B0z (n:Int) (K:Nat):(n*2 ^ K=0)=(n=0):=by
 have hp:=A7R K
 apply propext
 constructor
 ·intro h
  rcases Int.mul_eq_zero.1 h with h | h
  ·exact h
  ·omega
 ·intro h;rw [h];simp
theorem A8P {α:Type} (n:Int) (K:Nat) (a b:α):(if n*2 ^ K=0 then a else b)=if n=0 then a else b:=by
 by_cases h:n=0
 ·rw [if_pos h,if_pos (by rw [B0z];exact h)]
 ·rw [if_neg h,if_neg (by rw [B0z];exact h)]
theorem B5D {x y:Nat} {a b:Int} (hx:Is x a) (hy:Is y b) (h:(a+b).natAbs<2 ^ 53):double.add x y=some (dbl (a+b)):=by
 obtain⟨k,e1⟩:=hx
 obtain⟨l,e2⟩:=hy
 unfold Format.add
 rw [e1,e2]
 simp only [Datum.sum,Option.map_some]
 have hb:min (-(k:Int)) (-(l:Int)) = -((max k l:Nat):Int):=by omega
 rw [hb,R5 a k _ (max k l) (by omega),R5 b l _ (max k l) (by omega),<-Int.add_mul]
 rw [B0x,B0y,A8P,<-A1L (a+b) (max k l) h]
 congr 3
 by_cases h0:a+b=0
 ·rw [if_pos h0]
  have:¬ (a<0/\b<0):=by omega
  rw [decide_eq_false (show ¬ a+b<0 by omega)]
  by_cases ha:a<0
  ·rw [decide_eq_false (show ¬ b<0 by omega)];simp
  ·rw [decide_eq_false ha];rfl
 ·rw [if_neg h0]
theorem A9T (s:Bool) (m u:Nat):signed (!s) m u = -signed s m u:=by cases s<;>simp [signed]
theorem B7J {x y:Nat} {a b:Int} (hx:Is x a) (hy:Is y b) (h:(a-b).natAbs<2 ^ 53):double.sub x y=some (dbl (a-b)):=by
 obtain⟨k,e1⟩:=hx
 obtain⟨l,e2⟩:=hy
 unfold Format.sub
 rw [e1,e2]
 simp only [Datum.opposite,Datum.sum,Option.map_some]
 have hb:min (-(k:Int)) (-(l:Int)) = -((max k l:Nat):Int):=by omega
 rw [hb,A9T,R5 a k _ (max k l) (by omega),R5 b l _ (max k l) (by omega),<-Int.sub_eq_add_neg,<-Int.sub_mul]
 rw [B0x,B0y,A8P,<-A1L (a-b) (max k l) h]
 congr 3
 by_cases h0:a-b=0
 ·rw [if_pos h0,decide_eq_false (show ¬ a-b<0 by omega)]
  by_cases ha:a<0
  ·rw [decide_eq_true (show b<0 by omega)];simp
  ·rw [decide_eq_false ha];rfl
 ·rw [if_neg h0]
theorem B7K {x y:Nat} {a b:Int} (hx:Is x a) (hy:Is y b) (ha:0<=a) (hb:0<=b) (h:(a*b).natAbs<2 ^ 53):double.mul x y=some (dbl (a*b)):=by
 obtain⟨k,e1⟩:=hx
 obtain⟨l,e2⟩:=hy
 unfold Format.mul
 rw [e1,e2]
 simp only [Datum.product,Option.map_some]
 have hn:=Int.mul_nonneg ha hb
 rw [<-A1L (a*b) (k+l) h,decide_eq_false (show ¬ a<0 by omega),decide_eq_false (show ¬ b<0 by omega),decide_eq_false (show ¬ a*b<0 by omega)]
 congr 3
 ·rw [Int.natAbs_mul,Nat.pow_add]
  rw [Nat.mul_assoc,Nat.mul_left_comm (2 ^ k),<-Nat.mul_assoc]
 ·omega
theorem B5l (a b:Int) (K:Nat):compare (a*2 ^ K) (b*2 ^ K)=compare a b:=by
 have hp:=A7R K
 rcases Int.lt_trichotomy a b with h | h | h
 ·have h2:a*2 ^ K<b*2 ^ K:=Int.mul_lt_mul_of_pos_right h hp
  simp [compare,compareOfLessAndEq,h,h2]
 ·subst h;simp [compare,compareOfLessAndEq]
 ·have h2:b*2 ^ K<a*2 ^ K:=Int.mul_lt_mul_of_pos_right h hp
  have h3:¬ a*2 ^ K<b*2 ^ K:=by omega
  have h4:¬ a<b:=by omega
  have h5:¬ a*2 ^ K=b*2 ^ K:=by omega
  have h6:¬ a=b:=by omega
  simp [compare,compareOfLessAndEq,h3,h4,h5,h6]
theorem A44 {x y:Nat} {a b:Int} (hx:Is x a) (hy:Is y b):double.order x y=some (compare a b):=by
 obtain⟨k,e1⟩:=hx
 obtain⟨l,e2⟩:=hy
 unfold Format.order
 rw [e1,e2]
 simp only [Datum.order]
 have hb:min (-(k:Int)) (-(l:Int)) = -((max k l:Nat):Int):=by omega
 rw [hb,R5 a k _ (max k l) (by omega),R5 b l _ (max k l) (by omega),B5l]
theorem A3F (a:Int) (k:Nat):(Datum.number (decide (a<0)) (a.natAbs*2 ^ k) (-(k:Int))).integral .zero=.number (decide (a<0)) a.natAbs 0:=by
 simp only [Datum.integral]
 have hc:Toward.zero.cut (decide (a<0)) ((a.natAbs*2 ^ k) <<< (-(k:Int)).toNat) (- -(k:Int)).toNat=a.natAbs:=by
  rw [show (-(k:Int)).toNat=0 from by omega,show (- -(k:Int)).toNat=k from by omega,Nat.shiftLeft_zero]
  unfold Toward.cut
  by_cases h0:a.natAbs=0
  ·rw [h0];simp
  ·have hd:min k ((a.natAbs*2 ^ k).log2+2)=k:=by rw [A43 _ k h0];omega
   simp only [hd,Nat.one_shiftLeft]
   rw [Nat.mul_div_cancel _ (Nat.two_pow_pos _)]
   simp
 rw [hc]
theorem A8Q {x:Nat} {a:Int} (hx:Is x a):(double.read x).toInt .zero=some a:=by
 obtain⟨k,e⟩:=hx
 rw [e]
 unfold Datum.toInt
 rw [A3F]
 have h2:=R5 a 0 0 0 rfl
 rw [Nat.pow_zero,Nat.mul_one,Int.pow_zero,Int.mul_one] at h2
 exact congrArg some h2
theorem A18 (n:Int) (h:n.natAbs<2 ^ 53):FloatKind.f64.nearest n=dbl n:=by
 have h2:=A1L n 0 h
 rw [Nat.pow_zero,Nat.mul_one] at h2
 exact h2
end Go.Fl
section
namespace Go.Fl
open Go Ieee Go.Vc
theorem B7L (a b:Int):(some (compare a b)==some Ordering.lt)=decide (a<b):=by
 rcases Int.lt_trichotomy a b with h | h | h
 ·simp [compare,compareOfLessAndEq,h]
 ·subst h;simp [compare,compareOfLessAndEq]
 ·have h4:¬ a<b:=by omega
  have h6:¬ a=b:=by omega
  simp [compare,compareOfLessAndEq,h4,h6]
theorem B7M (a b:Int):(some (compare a b)==some Ordering.gt)=decide (b<a):=by
 rcases Int.lt_trichotomy a b with h | h | h
 ·have h4:¬ b<a:=by omega
  simp [compare,compareOfLessAndEq,h,h4]
 ·subst h;simp [compare,compareOfLessAndEq]
 ·have h4:¬ a<b:=by omega
  have h6:¬ a=b:=by omega
  simp [compare,compareOfLessAndEq,h4,h6,h]
theorem B00 (a b:Int):(some (compare a b)==some Ordering.eq)=decide (a=b):=by
 rcases Int.lt_trichotomy a b with h | h | h
 ·have h6:¬ a=b:=by omega
  simp [compare,compareOfLessAndEq,h,h6]
 ·subst h;simp [compare,compareOfLessAndEq]
 ·have h4:¬ a<b:=by omega
  have h6:¬ a=b:=by omega
  simp [compare,compareOfLessAndEq,h4,h6]
theorem B8l (a b:Int):(decide (a<b)||decide (a=b))=decide (a<=b):=by
 rw [Bool.eq_iff_iff];simp;omega
theorem B8m (a b:Int):(decide (b<a)||decide (a=b))=decide (b<=a):=by
 rw [Bool.eq_iff_iff];simp;omega
section
variable {P:Program} {T:TypeId} {ox oy:Operand} {x y:Nat} {a b:Int} {K:Value->Prop}
theorem B7N (hx:Is x a) (hy:Is y b) (k:K (.bool (decide (b<=a)))):∃ v,(∀ w,(do eqGuard .geq T ox oy (.float .f64 x) (.float .f64 y);binOp .geq T (.float .f64 x) (.float .f64 y):Sem Value).run P w=.ok v w)/\K v:=by
 refine⟨_,fun w=>?_,k⟩
 show Result.ok (Value.bool (double.order x y==some .gt||double.order x y==some .eq)) w=_
 rw [A44 hx hy,B7M,B00,B8m]
theorem B7O (hx:Is x a) (hy:Is y b) (k:K (.bool (decide (a<=b)))):∃ v,(∀ w,(do eqGuard .leq T ox oy (.float .f64 x) (.float .f64 y);binOp .leq T (.float .f64 x) (.float .f64 y):Sem Value).run P w=.ok v w)/\K v:=by
 refine⟨_,fun w=>?_,k⟩
 show Result.ok (Value.bool (double.order x y==some .lt||double.order x y==some .eq)) w=_
 rw [A44 hx hy,B7L,B00,B8l]
theorem B7P (hx:Is x a) (hy:Is y b) (k:K (.bool (decide (a=b)))):∃ v,(∀ w,(do eqGuard .eql T ox oy (.float .f64 x) (.float .f64 y);binOp .eql T (.float .f64 x) (.float .f64 y):Sem Value).run P w=.ok v w)/\K v:=by
 refine⟨_,fun w=>?_,k⟩
 show Result.ok (Value.bool (double.order x y==some .eq)) w=_
 rw [A44 hx hy,B00]
theorem B7Q (hx:Is x a) (hy:Is y b) (h:(a+b).natAbs<2 ^ 53) (k:K (.float .f64 (dbl (a+b)))):∃ v,(∀ w,(do eqGuard .add T ox oy (.float .f64 x) (.float .f64 y);binOp .add T (.float .f64 x) (.float .f64 y):Sem Value).run P w=.ok v w)/\K v:=by
 refine⟨_,fun w=>?_,k⟩
 show (match double.add x y with | some r=>Pure.pure (Value.float .f64 r) | none=>(do pure (Value.float .f64 (<-choose (.nanBits .f64 x y)))):Sem Value).run P w=_
 rw [B5D hx hy h]
 rfl
end
theorem A3G {P:Program} {x y:Nat} {a b:Int} (hx:Is x a) (hy:Is y b) (h:(a+b).natAbs<2 ^ 53) (w:World):(Op.Complex.arith .add .f64 x y).run P w=.ok (dbl (a+b)) w:=by
 unfold Op.Complex.arith Op.floatArith
 rw [show FloatKind.f64.format.add x y=double.add x y from rfl,B5D hx hy h]
 rfl
theorem B01 {P:Program} {x y:Nat} {a b:Int} (hx:Is x a) (hy:Is y b) (h:(a-b).natAbs<2 ^ 53) (w:World):(Op.Complex.arith .sub .f64 x y).run P w=.ok (dbl (a-b)) w:=by
 unfold Op.Complex.arith Op.floatArith
 rw [show FloatKind.f64.format.sub x y=double.sub x y from rfl,B7J hx hy h]
 rfl
theorem A1M {P:Program} {x y:Nat} {a b:Int} (hx:Is x a) (hy:Is y b) (ha:0<=a) (hb:0<=b) (h:(a*b).natAbs<2 ^ 53) (w:World):(Op.Complex.arith .mul .f64 x y).run P w=.ok (dbl (a*b)) w:=by
 unfold Op.Complex.arith Op.floatArith
 rw [show FloatKind.f64.format.mul x y=double.mul x y from rfl,B7K hx hy ha hb h]
 rfl
section
variable {P:Program} {T:TypeId} {ox oy:Operand} {x y x' y':Nat} {a b c d:Int} {K:Value->Prop}
theorem B5m (hx:Is x a) (hy:Is y b) (hx':Is x' c) (hy':Is y' d) (h:(a+c).natAbs<2 ^ 53) (h':(b+d).natAbs<2 ^ 53) (k:K (.complex .f64 (dbl (a+c)) (dbl (b+d)))):
  ∃ v,(∀ w,(do eqGuard .add T ox oy (.complex .f64 x y) (.complex .f64 x' y');binOp .add T (.complex .f64 x y) (.complex .f64 x' y'):Sem Value).run P w=.ok v w)/\K v:=by
 refine⟨_,fun w=>?_,k⟩
 show (do pure (Value.complex .f64 (<-Op.Complex.arith .add .f64 x x') (<-Op.Complex.arith .add .f64 y y')):Sem Value).run P w=_
 simp only [Sem.run_bind,A3G hx hx' h,A3G hy hy' h',Result.andThen_ok,Sem.run_pure]
theorem B5n (hx:Is x a) (hy:Is y b) (hx':Is x' c) (hy':Is y' d) (ha:0<=a/\a<2 ^ 20) (hb:0<=b/\b<2 ^ 20) (hc:0<=c/\c<2 ^ 20) (hd:0<=d/\d<2 ^ 20)
  (k:K (.complex .f64 (dbl (a*c-b*d)) (dbl (a*d+b*c)))):
  ∃ v,(∀ w,(do eqGuard .mul T ox oy (.complex .f64 x y) (.complex .f64 x' y');binOp .mul T (.complex .f64 x y) (.complex .f64 x' y'):Sem Value).run P w=.ok v w)/\K v:=by
 have lim:∀ {u v:Int},0<=u/\u<2 ^ 20->0<=v/\v<2 ^ 20->0<=u*v/\u*v<2 ^ 40:=by
  intro u v hu hv
  refine⟨Int.mul_nonneg hu.1 hv.1,?_⟩
  have h1:u*v<=u*2 ^ 20:=Int.mul_le_mul_of_nonneg_left (by omega) hu.1
  omega
 have l1:=lim ha hc
 have l2:=lim hb hd
 have l3:=lim ha hd
 have l4:=lim hb hc
 refine⟨_,fun w=>?_,k⟩
 show (do
  let r <-(do
   let p <-(do pure (<-Op.Complex.arith .sub .f64 (<-Op.Complex.arith .mul .f64 x x') (<-Op.Complex.arith .mul .f64 y y'),<-Op.Complex.arith .add .f64 (<-Op.Complex.arith .mul .f64 x y') (<-Op.Complex.arith .mul .f64 y x')):Sem (Nat × Nat))
   pure p:Sem (Nat × Nat))
  pure (Value.complex .f64 r.1 r.2):Sem Value).run P w=_
 simp only [Sem.run_bind,A1M hx hx' ha.1 hc.1 (by omega),A1M hy hy' hb.1 hd.1 (by omega),A1M hx hy' ha.1 hd.1 (by omega),A1M hy hx' hb.1 hc.1 (by omega),Result.andThen_ok,Sem.run_pure,
  B01 (I5 (a*c) (by omega)) (I5 (b*d) (by omega)) (by omega),A3G (I5 (a*d) (by omega)) (I5 (b*c) (by omega)) (by omega)]
end
end Go.Fl
end
