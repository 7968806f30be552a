import Derived.Test.YtokglimimnelaaaGreatDoorM13
set_option linter.unusedVariables false
set_option linter.unusedSimpArgs false
/- Walk: armariumlaw8.ShelfOrder. -/
namespace Go.Proofs.YtokglimimnelaaaGreatDoor
open Go.Vc Go.RowKit Go.Fl Go.ChangeShapes Go.WideShapes Go.ChangeAt
set_option maxRecDepth 100000
theorem tmod4 (y:Int) : -3<=y.tmod 4/\y.tmod 4<=3:=by
 rcases Int.le_total 0 y with h | h
 ·rw [Int.tmod_eq_emod_of_nonneg h];omega
 ·have:=Int.neg_tmod (-y) 4
  rw [Int.neg_neg] at this
  rw [this,Int.tmod_eq_emod_of_nonneg (by omega)];omega
abbrev rawO (y:Int) (m a:Nat):Int:=if (IntKind.i64.wrap (y.tmod 4+4)).tmod 4<IntKind.i64.wrap ((m:Int)-a) then (IntKind.i64.wrap (y.tmod 4+4)).tmod 4 else IntKind.i64.wrap ((m:Int)-a)
theorem rawO_nat (y:Int) (m a:Nat) (ha:a<=m) (hm:m<=60):∃ n:Nat,rawO y m a=n/\a+n<=m:=by
 have h4:=tmod4 y
 have e1:IntKind.i64.wrap ((m:Int)-a)=((m-a:Nat):Int):=by rw [IntWalk.i64_in _ ⟨by omega,by omega⟩];omega
 have e2:IntKind.i64.wrap (y.tmod 4+4)=y.tmod 4+4:=IntWalk.i64_in _ ⟨by omega,by omega⟩
 have e3:(y.tmod 4+4).tmod 4=(y.tmod 4+4) % 4:=Int.tmod_eq_emod_of_nonneg (by omega)
 unfold rawO
 rw [e1,e2,e3]
 refine⟨(if (y.tmod 4+4) % 4<((m-a:Nat):Int) then (y.tmod 4+4) % 4 else ((m-a:Nat):Int)).toNat,?_,?_⟩
 ·split<;>omega
 ·split<;>omega
set_option maxHeartbeats 8000000 in
theorem order8_any (ds:List D) (st:List Int) (A B:Option Addr) (ca cb:Nat) (hdk:∀ d∈ds,d.Ok) (hst:∀ x∈st,i64ok x) (w:World) (hw:Env w) (hA:Row (inW w) w A ds.length ca (ds.map dC).flatten) (hB:Row (inW w) w B st.length cb (st.map fun n=>[.int .i64 n]).flatten):Calls Tryz.prog 7 #[.slice A ds.length ca,.slice B st.length cb] w (RetB (.bool true) w):=by
 refine calls_sem lay_ok Tryz.func7 rfl (by kernel_rfl) (by kernel_rfl) ?_
 refine SemC.cut lay_ok (fun (x:Nat × Sh × Option Addr × Nat)=>[(0,.slice A ds.length ca),(1,.slice B st.length cb),(6,.pointer (some ⟨x.1,0,none⟩)),(8,.slice x.2.2.1 x.2.1.k.pend.length x.2.2.2)]) (fun x w'=>Fit x.2.1 20/\x.2.1.k.b=Stt0/\∃ gj gc b S,CtxF no w S w' [] [orD x.2.2.1 x.2.2.2 x.2.1.k.pend] (Sep w.heap.size (fun _ _=>True) (ShelfK x.1 gj gc b x.2.1))) 6 (by kernel_rfl) ?_ ?_
 rotate_left
 ·rintro⟨gs,H,C,cc⟩ u w1 ⟨hf,hb0,gj,gc,b,S,hc⟩
  simp only at hf hb0 hc
  refine SemC.vc lay_ok ?_
  obtain⟨all,hall⟩:∃ all,all=H.k.pend:=⟨_,rfl⟩
  have hal60:all.length<=60:=by rw [hall];exact hf.ok.k.len
  have hallk:∀ d∈all,mayD d=true/\d.Ok:=by rw [hall];exact hf.ok.k.pend
  rw [<-hall] at hc
  have hmB:=row_max hB
  refine hc.n fun gB wgB hgB hc=>?_
  have hc:=hc.sepNow (R':=fun S w=>RepS S w Stt0 (stX Stt0 SX0)) (fun _ _=>rep0X _ _) (fun _ h=>h) (stab_S _ _) (ShelfK.stab _ _ _ _ _)
  refine⟨Nat × Nat × Sh × SX,fun (i,a,H,x)=>[(0,.slice A ds.length ca),(1,.slice B st.length cb),(6,.pointer (some ⟨gs,0,none⟩)),(8,.slice C all.length cc),(11,.pointer (some ⟨gB,0,none⟩)),(12,.int .i64 (a:Int)),(13,.int .i64 (i:Int))],
   fun (i,a,H,x) w'=>i<=st.length/\i<=20/\Fit H (20+i)/\a<=all.length/\H.k.pend=all.drop a/\H.k.b.seq=a/\∃ S,CtxF no w S w' [(gB,43,stX H.k.b x)] [orD C cc all] (Sep w.heap.size (fun S w=>RepS S w H.k.b (stX H.k.b x)) (ShelfK gs gj gc b H)),fun (i,_) _=>20-i,(0,0,H,SX0),⟨rfl,rfl,rfl,(show Value.slice C H.k.pend.length cc=.slice C all.length cc by rw [hall]),rfl,rfl,rfl,trivial⟩,⟨Nat.zero_le _,Nat.zero_le _,hf,Nat.zero_le _,by rw [hall];rfl,by rw [hb0];rfl,_,by rw [hb0];exact hc⟩,?_⟩
  clear hc
  rintro⟨i,a,H,x⟩ w2 u2 ⟨hi,hi20,hf,ha,hpd,hsq,S,hc⟩
  by_cases hlt:i<st.length
  rotate_left
  ·refine split_f (decide_eq_false (by omega)) ?_
   exact⟨rfl,hc.below⟩
  refine split_t (decide_eq_true (by omega)) ?_
  by_cases h20:i<20
  rotate_left
  ·refine split_f (decide_eq_false (by omega)) ?_
   exact⟨rfl,hc.below⟩
  refine split_t (decide_eq_true (by omega)) ?_
  obtain⟨ad,rfl,hcell⟩:=RowI.elem (hB.below hc.below) i hlt
  obtain⟨y,hy⟩:∃ y,y=st[i]:=⟨_,rfl⟩
  rw [<-hy] at hcell
  refine⟨⟨by omega,by omega⟩,?_⟩
  refine⟨_,by rw [Int.toNat_natCast];exact hcell.1,?_⟩
  refine⟨by decide,?_⟩
  refine⟨by decide,?_⟩
  obtain⟨n,hn,han⟩:=rawO_nat y all.length a ha hal60
  have hwa:IntKind.i64.wrap ((a:Int)+rawO y all.length a)=((a+n:Nat):Int):=by rw [hn,IntWalk.i64_in _ ⟨by omega,by omega⟩];omega
  have hi64:i64ok ((a+n:Nat):Int):=by unfold i64ok;omega
  have hpl:H.k.pend.length=all.length-a:=by rw [hpd,List.length_drop]
  have hseq:H.k.seq=all.length:=by unfold Known.seq;rw [hsq,hpl];omega
  obtain⟨H',e1,e2,hf',_⟩:=hf.done (by omega) hi64 (by omega)
  have ek:commitK H.k ((a+n:Nat):Int)=(⟨foldS H.k.b ((all.drop a).take n),all.drop (a+n),H.k.ep,H.k.ln⟩,resS H.k.b ((all.drop a).take n)):=by
   unfold commitK
   have e5:(((a+n:Nat):Int)-H.k.b.seq).toNat=n:=by rw [hsq];omega
   rw [e5,hpd,List.drop_drop]
  rw [ek] at e1 e2
  have hcm:∀ (Sa:Nat->Prop) (w:World),(∀ x,Sa x->x<w.heap.size)->EnvFree Sa w->ShelfK gs gj gc b H Sa w->Calls Tryz.prog 19 #[.pointer (some ⟨gs,0,none⟩),.int .i64 (IntKind.i64.wrap ((a:Int)+rawO y all.length a))] w (RetSc Sa w (ShelfK gs gj gc b H') (resS H.k.b ((all.drop a).take n)) 0):=fun Sa w hlt he hK=>by
   rw [hwa]
   have h9:=scommit_any gs gj gc b H hf.ok _ hi64 Sa w hlt he hK
   rw [e1] at h9
   exact h9
  have hrl:(resS H.k.b ((all.drop a).take n)).length=n:=by rw [resS_len,List.length_take,List.length_drop];omega
  obtain⟨S1,Sa,h1,h2,h3,hO⟩:=hc.row
  refine⟨(hcm Sa _ (fun x hx=>hc.ctx.lt x (h2 x hx).1) (hw.free hc.below h2) hO).mono fun en wq hq=>?_⟩
  obtain⟨A1,c1,e3,hT,Sn,Sl,hSn,hO,hSl,hX⟩:=hq
  obtain⟨S3,hc⟩:=hc.turnR (stab_S _ _) h1 h2 h3 hT hSn hO hSl (X:=fun S w=>Row S w A1 (resS H.k.b ((all.drop a).take n)).length c1 ((resS H.k.b ((all.drop a).take n)).map resC).flatten) hX (ShelfK.stab _ _ _ _ _) (fun _ _ _ _ h f=>h.fut f)
  refine⟨_,e3,?_⟩
  refine split_f (by show ((((resS H.k.b ((all.drop a).take n)).length:Int)) != rawO y all.length a)=false;rw [hn,hrl,bne_eq_false_iff_eq]) ?_
  have sR:∀ (s:Stt) (x:SX),Stab (fun S w=>RepS S w s (stX s x)/\Row S w A1 (resS H.k.b ((all.drop a).take n)).length c1 ((resS H.k.b ((all.drop a).take n)).map resC).flatten):=fun s x=>(stab_S _ _).and (fun _ _ _ _ h f=>h.fut f)
  refine⟨Nat × SX,fun (k,x)=>[(0,.slice A ds.length ca),(1,.slice (some ad) st.length cb),(6,.pointer (some ⟨gs,0,none⟩)),(8,.slice C all.length cc),(11,.pointer (some ⟨gB,0,none⟩)),(12,.int .i64 (a:Int)),(13,.int .i64 (i:Int)),(14,.int .i64 (n:Int)),(15,.slice A1 (resS H.k.b ((all.drop a).take n)).length c1),(17,.int .i64 (k:Int))],
   fun (k,x) w'=>k<=n/\∃ S,CtxF no w S w' [(gB,43,stX (foldS H.k.b ((all.drop a).take k)) x)] [orD C cc all] (Sep w.heap.size (fun S w=>RepS S w (foldS H.k.b ((all.drop a).take k)) (stX (foldS H.k.b ((all.drop a).take k)) x)/\Row S w A1 (resS H.k.b ((all.drop a).take n)).length c1 ((resS H.k.b ((all.drop a).take n)).map resC).flatten) (ShelfK gs gj gc b H')),fun (k,_) _=>n-k,(0,x),⟨rfl,rfl,rfl,rfl,rfl,rfl,rfl,(show Value.int .i64 (rawO y all.length a)=.int .i64 n by rw [hn]),rfl,rfl,trivial⟩,⟨Nat.zero_le _,_,hc⟩,?_⟩
  clear hc
  rintro⟨k,x⟩ w3 u3 ⟨hkn,S,hc⟩
  by_cases hk:k<n
  ·refine split_t (decide_eq_true (by omega)) ?_
   have hal:a+k<all.length:=by omega
   obtain⟨d,hd⟩:∃ d,d=all[a+k]:=⟨_,rfl⟩
   have hdo:=hallk d (hd▸List.getElem_mem _)
   have hwk:IntKind.i64.wrap ((a:Int)+(k:Int))=((a+k:Nat):Int):=by rw [IntWalk.i64_in _ ⟨by omega,by omega⟩];omega
   have hbk:=foldS_ok ((all.drop a).take k) hf.ok.k.may hf.ok.k.lows
   obtain⟨bk,hbk0⟩:∃ bk,bk=foldS H.k.b ((all.drop a).take k):=⟨_,rfl⟩
   rw [<-hbk0] at hc hbk
   obtain⟨_,hR0⟩:=ownD_row hc
   obtain⟨ad2,rfl,_⟩:=RowD8.elem hR0 (a+k) hal
   clear hR0
   refine Drawn.join (α:=SX × Nat × Nat) (fun (y,g18,g19)=>[(0,.slice A ds.length ca),(1,.slice (some ad) st.length cb),(6,.pointer (some ⟨gs,0,none⟩)),(8,.slice (some ad2) all.length cc),(11,.pointer (some ⟨gB,0,none⟩)),(12,.int .i64 (a:Int)),(13,.int .i64 (i:Int)),(14,.int .i64 (n:Int)),(15,.slice A1 (resS H.k.b ((all.drop a).take n)).length c1),(17,.int .i64 (k:Int)),(18,.pointer (some ⟨g18,0,none⟩)),(19,.pointer (some ⟨g19,0,none⟩))])
    (fun (y,g18,g19) wS=>∃ S,CtxF no w S wS [(g19,54,resC (doS bk d).2),(g18,43,stX (doS bk d).1 y),(gB,43,stX bk x)] [orD (some ad2) cc all] (Sep w.heap.size (fun S w=>(RepS S w bk (stX bk x)/\Row S w A1 (resS H.k.b ((all.drop a).take n)).length c1 ((resS H.k.b ((all.drop a).take n)).map resC).flatten)/\RepS S w (doS bk d).1 (stX (doS bk d).1 y)) (ShelfK gs gj gc b H'))) ?_ ?_
   ·refine vD (.Q [1,2,3,4,5] (.n 0 (.n 6 (.n 7 (.Q [8,9,10] (.n 11 (.n 12 (.n 13 (.z 14) .stop) .stop) (.n 12 (.n 11 (.n 13 (.z 14) .stop) .stop) .stop))) (.n 11 (.n 7 (.Q [8,9,10] (.n 12 (.n 13 (.z 14) .stop) .stop)) (.n 12 (.n 7 (.Q [8,9,10] (.n 13 (.z 14) .stop)) .stop) .stop)) (.n 12 (.n 7 (.Q [8,9,10] (.n 11 (.n 13 (.z 14) .stop) .stop)) (.n 11 (.n 7 (.Q [8,9,10] (.n 13 (.z 14) .stop)) .stop) .stop)) .stop))) (.n 11 (.n 6 (.n 7 (.Q [8,9,10] (.n 12 (.n 13 (.z 14) .stop) .stop)) (.n 12 (.n 7 (.Q [8,9,10] (.n 13 (.z 14) .stop)) .stop) .stop)) (.n 12 (.n 6 (.n 7 (.Q [8,9,10] (.n 13 (.z 14) .stop)) .stop) .stop) .stop)) (.n 12 (.n 6 (.n 7 (.Q [8,9,10] (.n 11 (.n 13 (.z 14) .stop) .stop)) (.n 11 (.n 7 (.Q [8,9,10] (.n 13 (.z 14) .stop)) .stop) .stop)) (.n 11 (.n 6 (.n 7 (.Q [8,9,10] (.n 13 (.z 14) .stop)) .stop) .stop) .stop)) .stop))) (.n 6 (.n 0 (.n 7 (.Q [8,9,10] (.n 11 (.n 12 (.n 13 (.z 14) .stop) .stop) (.n 12 (.n 11 (.n 13 (.z 14) .stop) .stop) .stop))) (.n 11 (.n 7 (.Q [8,9,10] (.n 12 (.n 13 (.z 14) .stop) .stop)) (.n 12 (.n 7 (.Q [8,9,10] (.n 13 (.z 14) .stop)) .stop) .stop)) (.n 12 (.n 7 (.Q [8,9,10] (.n 11 (.n 13 (.z 14) .stop) .stop)) (.n 11 (.n 7 (.Q [8,9,10] (.n 13 (.z 14) .stop)) .stop) .stop)) .stop))) (.n 11 (.n 0 (.n 7 (.Q [8,9,10] (.n 12 (.n 13 (.z 14) .stop) .stop)) (.n 12 (.n 7 (.Q [8,9,10] (.n 13 (.z 14) .stop)) .stop) .stop)) (.n 12 (.n 0 (.n 7 (.Q [8,9,10] (.n 13 (.z 14) .stop)) .stop) .stop) .stop)) (.n 12 (.n 0 (.n 7 (.Q [8,9,10] (.n 11 (.n 13 (.z 14) .stop) .stop)) (.n 11 (.n 7 (.Q [8,9,10] (.n 13 (.z 14) .stop)) .stop) .stop)) (.n 11 (.n 0 (.n 7 (.Q [8,9,10] (.n 13 (.z 14) .stop)) .stop) .stop) .stop)) .stop))) (.n 11 (.n 0 (.n 6 (.n 7 (.Q [8,9,10] (.n 12 (.n 13 (.z 14) .stop) .stop)) (.n 12 (.n 7 (.Q [8,9,10] (.n 13 (.z 14) .stop)) .stop) .stop)) (.n 12 (.n 6 (.n 7 (.Q [8,9,10] (.n 13 (.z 14) .stop)) .stop) .stop) .stop)) (.n 6 (.n 0 (.n 7 (.Q [8,9,10] (.n 12 (.n 13 (.z 14) .stop) .stop)) (.n 12 (.n 7 (.Q [8,9,10] (.n 13 (.z 14) .stop)) .stop) .stop)) (.n 12 (.n 0 (.n 7 (.Q [8,9,10] (.n 13 (.z 14) .stop)) .stop) .stop) .stop)) (.n 12 (.n 0 (.n 6 (.n 7 (.Q [8,9,10] (.n 13 (.z 14) .stop)) .stop) .stop) (.n 6 (.n 0 (.n 7 (.Q [8,9,10] (.n 13 (.z 14) .stop)) .stop) .stop) .stop)) .stop))) (.n 12 (.n 0 (.n 6 (.n 7 (.Q [8,9,10] (.n 11 (.n 13 (.z 14) .stop) .stop)) (.n 11 (.n 7 (.Q [8,9,10] (.n 13 (.z 14) .stop)) .stop) .stop)) (.n 11 (.n 6 (.n 7 (.Q [8,9,10] (.n 13 (.z 14) .stop)) .stop) .stop) .stop)) (.n 6 (.n 0 (.n 7 (.Q [8,9,10] (.n 11 (.n 13 (.z 14) .stop) .stop)) (.n 11 (.n 7 (.Q [8,9,10] (.n 13 (.z 14) .stop)) .stop) .stop)) (.n 11 (.n 0 (.n 7 (.Q [8,9,10] (.n 13 (.z 14) .stop)) .stop) .stop) .stop)) (.n 11 (.n 0 (.n 6 (.n 7 (.Q [8,9,10] (.n 13 (.z 14) .stop)) .stop) .stop) (.n 6 (.n 0 (.n 7 (.Q [8,9,10] (.n 13 (.z 14) .stop)) .stop) .stop) .stop)) .stop))) .stop))))) (fun _=>True) trivial ?_
    have hc:=hc.drew
    refine⟨⟨by rw [hwk];omega,by rw [hwk];omega⟩,?_⟩
    refine⟨?_,?_⟩
    ·skip
     refine hc.a' 0 rfl rfl ?_
     refine⟨?_,?_⟩
     ·skip
      refine⟨dC d,rfl,by rw [hwk,Int.toNat_natCast,hd];exact ownD_cells hc (a+k) hal,trivial,?_⟩
      refine⟨?_,?_⟩
      ·skip
       obtain⟨S1,Sa,h1,h2,h3,hO⟩:=hc.row
       refine⟨(rdo_any bk d (mayS_ok hbk.2.1 hbk.1) hdo.2 (stX bk x) S1 _ (fun b hb=>hc.ctx.lt b (h1 b hb).1) h3.1).mono fun en wq hq=>?_⟩
       obtain⟨cs,e1,hq,hrep⟩:=hq
       obtain⟨y,rfl⟩:=hrep.stX
       have hc:=hc.sepSome (X:=fun S w=>RepS S w (doS bk d).1 (stX (doS bk d).1 y)) (sR bk x) h1 h2 h3 hO (ShelfK.stab _ _ _ _ _) hq hrep (stab_S _ _)
       refine⟨_,e1,trivial,?_⟩
       refine⟨?_,?_⟩
       ·skip
        refine hc.n' fun g18 wg18 hg18 hc=>?_
        refine⟨hc.n' fun g19 wg19 hg19 hc=>?_,trivial⟩
        refine⟨hc.s' 1 rfl fun wS hS hc=>?_,trivial⟩
        refine hc.s 0 rfl fun wS hS hc=>?_
        exact⟨(y,g18,g19),⟨rfl,rfl,rfl,rfl,rfl,rfl,rfl,rfl,rfl,rfl,rfl,rfl,trivial⟩,_,hc⟩
       refine⟨hc.n' fun g19 wg19 hg19 hc=>?_,trivial⟩
       refine⟨hc.n' fun g18 wg18 hg18 hc=>?_,trivial⟩
       refine⟨hc.s' 0 rfl fun wS hS hc=>?_,trivial⟩
       refine hc.s 1 rfl fun wS hS hc=>?_
       exact⟨(y,g18,g19),⟨rfl,rfl,rfl,rfl,rfl,rfl,rfl,rfl,rfl,rfl,rfl,rfl,trivial⟩,_,hc.swapL⟩
      refine⟨?_,?_⟩
      ·skip
       refine hc.n' fun g18 wg18 hg18 hc=>?_
       refine⟨?_,?_⟩
       ·skip
        obtain⟨S1,Sa,h1,h2,h3,hO⟩:=hc.row
        refine⟨(rdo_any bk d (mayS_ok hbk.2.1 hbk.1) hdo.2 (stX bk x) S1 _ (fun b hb=>hc.ctx.lt b (h1 b hb).1) h3.1).mono fun en wq hq=>?_⟩
        obtain⟨cs,e1,hq,hrep⟩:=hq
        obtain⟨y,rfl⟩:=hrep.stX
        have hc:=hc.sepSome (X:=fun S w=>RepS S w (doS bk d).1 (stX (doS bk d).1 y)) (sR bk x) h1 h2 h3 hO (ShelfK.stab _ _ _ _ _) hq hrep (stab_S _ _)
        refine⟨_,e1,trivial,?_⟩
        refine⟨hc.n' fun g19 wg19 hg19 hc=>?_,trivial⟩
        refine⟨hc.s' 1 rfl fun wS hS hc=>?_,trivial⟩
        refine hc.s 0 rfl fun wS hS hc=>?_
        exact⟨(y,g18,g19),⟨rfl,rfl,rfl,rfl,rfl,rfl,rfl,rfl,rfl,rfl,rfl,rfl,trivial⟩,_,hc⟩
       refine⟨hc.n' fun g19 wg19 hg19 hc=>?_,trivial⟩
       refine⟨?_,trivial⟩
       obtain⟨S1,Sa,h1,h2,h3,hO⟩:=hc.row
       refine⟨(rdo_any bk d (mayS_ok hbk.2.1 hbk.1) hdo.2 (stX bk x) S1 _ (fun b hb=>hc.ctx.lt b (h1 b hb).1) h3.1).mono fun en wq hq=>?_⟩
       obtain⟨cs,e1,hq,hrep⟩:=hq
       obtain⟨y,rfl⟩:=hrep.stX
       have hc:=hc.sepSome (X:=fun S w=>RepS S w (doS bk d).1 (stX (doS bk d).1 y)) (sR bk x) h1 h2 h3 hO (ShelfK.stab _ _ _ _ _) hq hrep (stab_S _ _)
       refine⟨_,e1,trivial,?_⟩
       refine⟨hc.s' 1 rfl fun wS hS hc=>?_,trivial⟩
       refine hc.s 0 rfl fun wS hS hc=>?_
       exact⟨(y,g18,g19),⟨rfl,rfl,rfl,rfl,rfl,rfl,rfl,rfl,rfl,rfl,rfl,rfl,trivial⟩,_,hc⟩
      refine⟨hc.n' fun g19 wg19 hg19 hc=>?_,trivial⟩
      refine⟨?_,?_⟩
      ·skip
       obtain⟨S1,Sa,h1,h2,h3,hO⟩:=hc.row
       refine⟨(rdo_any bk d (mayS_ok hbk.2.1 hbk.1) hdo.2 (stX bk x) S1 _ (fun b hb=>hc.ctx.lt b (h1 b hb).1) h3.1).mono fun en wq hq=>?_⟩
       obtain⟨cs,e1,hq,hrep⟩:=hq
       obtain⟨y,rfl⟩:=hrep.stX
       have hc:=hc.sepSome (X:=fun S w=>RepS S w (doS bk d).1 (stX (doS bk d).1 y)) (sR bk x) h1 h2 h3 hO (ShelfK.stab _ _ _ _ _) hq hrep (stab_S _ _)
       refine⟨_,e1,trivial,?_⟩
       refine⟨hc.n' fun g18 wg18 hg18 hc=>?_,trivial⟩
       refine⟨hc.s' 0 rfl fun wS hS hc=>?_,trivial⟩
       refine hc.s 1 rfl fun wS hS hc=>?_
       exact⟨(y,g18,g19),⟨rfl,rfl,rfl,rfl,rfl,rfl,rfl,rfl,rfl,rfl,rfl,rfl,trivial⟩,_,hc.swapL⟩
      refine⟨hc.n' fun g18 wg18 hg18 hc=>?_,trivial⟩
      refine⟨?_,trivial⟩
      obtain⟨S1,Sa,h1,h2,h3,hO⟩:=hc.row
      refine⟨(rdo_any bk d (mayS_ok hbk.2.1 hbk.1) hdo.2 (stX bk x) S1 _ (fun b hb=>hc.ctx.lt b (h1 b hb).1) h3.1).mono fun en wq hq=>?_⟩
      obtain⟨cs,e1,hq,hrep⟩:=hq
      obtain⟨y,rfl⟩:=hrep.stX
      have hc:=hc.sepSome (X:=fun S w=>RepS S w (doS bk d).1 (stX (doS bk d).1 y)) (sR bk x) h1 h2 h3 hO (ShelfK.stab _ _ _ _ _) hq hrep (stab_S _ _)
      refine⟨_,e1,trivial,?_⟩
      refine⟨hc.s' 0 rfl fun wS hS hc=>?_,trivial⟩
      refine hc.s 1 rfl fun wS hS hc=>?_
      exact⟨(y,g18,g19),⟨rfl,rfl,rfl,rfl,rfl,rfl,rfl,rfl,rfl,rfl,rfl,rfl,trivial⟩,_,hc.swapL⟩
     refine⟨?_,?_⟩
     ·skip
      refine hc.n' fun g18 wg18 hg18 hc=>?_
      refine⟨?_,?_⟩
      ·skip
       refine⟨dC d,rfl,by rw [hwk,Int.toNat_natCast,hd];exact ownD_cells hc (a+k) hal,trivial,?_⟩
       refine⟨?_,?_⟩
       ·skip
        obtain⟨S1,Sa,h1,h2,h3,hO⟩:=hc.row
        refine⟨(rdo_any bk d (mayS_ok hbk.2.1 hbk.1) hdo.2 (stX bk x) S1 _ (fun b hb=>hc.ctx.lt b (h1 b hb).1) h3.1).mono fun en wq hq=>?_⟩
        obtain⟨cs,e1,hq,hrep⟩:=hq
        obtain⟨y,rfl⟩:=hrep.stX
        have hc:=hc.sepSome (X:=fun S w=>RepS S w (doS bk d).1 (stX (doS bk d).1 y)) (sR bk x) h1 h2 h3 hO (ShelfK.stab _ _ _ _ _) hq hrep (stab_S _ _)
        refine⟨_,e1,trivial,?_⟩
        refine⟨hc.n' fun g19 wg19 hg19 hc=>?_,trivial⟩
        refine⟨hc.s' 1 rfl fun wS hS hc=>?_,trivial⟩
        refine hc.s 0 rfl fun wS hS hc=>?_
        exact⟨(y,g18,g19),⟨rfl,rfl,rfl,rfl,rfl,rfl,rfl,rfl,rfl,rfl,rfl,rfl,trivial⟩,_,hc⟩
       refine⟨hc.n' fun g19 wg19 hg19 hc=>?_,trivial⟩
       refine⟨?_,trivial⟩
       obtain⟨S1,Sa,h1,h2,h3,hO⟩:=hc.row
       refine⟨(rdo_any bk d (mayS_ok hbk.2.1 hbk.1) hdo.2 (stX bk x) S1 _ (fun b hb=>hc.ctx.lt b (h1 b hb).1) h3.1).mono fun en wq hq=>?_⟩
       obtain⟨cs,e1,hq,hrep⟩:=hq
       obtain⟨y,rfl⟩:=hrep.stX
       have hc:=hc.sepSome (X:=fun S w=>RepS S w (doS bk d).1 (stX (doS bk d).1 y)) (sR bk x) h1 h2 h3 hO (ShelfK.stab _ _ _ _ _) hq hrep (stab_S _ _)
       refine⟨_,e1,trivial,?_⟩
       refine⟨hc.s' 1 rfl fun wS hS hc=>?_,trivial⟩
       refine hc.s 0 rfl fun wS hS hc=>?_
       exact⟨(y,g18,g19),⟨rfl,rfl,rfl,rfl,rfl,rfl,rfl,rfl,rfl,rfl,rfl,rfl,trivial⟩,_,hc⟩
      refine⟨hc.n' fun g19 wg19 hg19 hc=>?_,trivial⟩
      refine⟨⟨dC d,rfl,by rw [hwk,Int.toNat_natCast,hd];exact ownD_cells hc (a+k) hal,trivial,?_⟩,trivial⟩
      refine⟨?_,trivial⟩
      obtain⟨S1,Sa,h1,h2,h3,hO⟩:=hc.row
      refine⟨(rdo_any bk d (mayS_ok hbk.2.1 hbk.1) hdo.2 (stX bk x) S1 _ (fun b hb=>hc.ctx.lt b (h1 b hb).1) h3.1).mono fun en wq hq=>?_⟩
      obtain⟨cs,e1,hq,hrep⟩:=hq
      obtain⟨y,rfl⟩:=hrep.stX
      have hc:=hc.sepSome (X:=fun S w=>RepS S w (doS bk d).1 (stX (doS bk d).1 y)) (sR bk x) h1 h2 h3 hO (ShelfK.stab _ _ _ _ _) hq hrep (stab_S _ _)
      refine⟨_,e1,trivial,?_⟩
      refine⟨hc.s' 1 rfl fun wS hS hc=>?_,trivial⟩
      refine hc.s 0 rfl fun wS hS hc=>?_
      exact⟨(y,g18,g19),⟨rfl,rfl,rfl,rfl,rfl,rfl,rfl,rfl,rfl,rfl,rfl,rfl,trivial⟩,_,hc⟩
     refine⟨hc.n' fun g19 wg19 hg19 hc=>?_,trivial⟩
     refine⟨?_,?_⟩
     ·skip
      refine⟨dC d,rfl,by rw [hwk,Int.toNat_natCast,hd];exact ownD_cells hc (a+k) hal,trivial,?_⟩
      refine⟨?_,?_⟩
      ·skip
       obtain⟨S1,Sa,h1,h2,h3,hO⟩:=hc.row
       refine⟨(rdo_any bk d (mayS_ok hbk.2.1 hbk.1) hdo.2 (stX bk x) S1 _ (fun b hb=>hc.ctx.lt b (h1 b hb).1) h3.1).mono fun en wq hq=>?_⟩
       obtain⟨cs,e1,hq,hrep⟩:=hq
       obtain⟨y,rfl⟩:=hrep.stX
       have hc:=hc.sepSome (X:=fun S w=>RepS S w (doS bk d).1 (stX (doS bk d).1 y)) (sR bk x) h1 h2 h3 hO (ShelfK.stab _ _ _ _ _) hq hrep (stab_S _ _)
       refine⟨_,e1,trivial,?_⟩
       refine⟨hc.n' fun g18 wg18 hg18 hc=>?_,trivial⟩
       refine⟨hc.s' 0 rfl fun wS hS hc=>?_,trivial⟩
       refine hc.s 1 rfl fun wS hS hc=>?_
       exact⟨(y,g18,g19),⟨rfl,rfl,rfl,rfl,rfl,rfl,rfl,rfl,rfl,rfl,rfl,rfl,trivial⟩,_,hc.swapL⟩
      refine⟨hc.n' fun g18 wg18 hg18 hc=>?_,trivial⟩
      refine⟨?_,trivial⟩
      obtain⟨S1,Sa,h1,h2,h3,hO⟩:=hc.row
      refine⟨(rdo_any bk d (mayS_ok hbk.2.1 hbk.1) hdo.2 (stX bk x) S1 _ (fun b hb=>hc.ctx.lt b (h1 b hb).1) h3.1).mono fun en wq hq=>?_⟩
      obtain⟨cs,e1,hq,hrep⟩:=hq
      obtain⟨y,rfl⟩:=hrep.stX
      have hc:=hc.sepSome (X:=fun S w=>RepS S w (doS bk d).1 (stX (doS bk d).1 y)) (sR bk x) h1 h2 h3 hO (ShelfK.stab _ _ _ _ _) hq hrep (stab_S _ _)
      refine⟨_,e1,trivial,?_⟩
      refine⟨hc.s' 0 rfl fun wS hS hc=>?_,trivial⟩
      refine hc.s 1 rfl fun wS hS hc=>?_
      exact⟨(y,g18,g19),⟨rfl,rfl,rfl,rfl,rfl,rfl,rfl,rfl,rfl,rfl,rfl,rfl,trivial⟩,_,hc.swapL⟩
     refine⟨hc.n' fun g18 wg18 hg18 hc=>?_,trivial⟩
     refine⟨⟨dC d,rfl,by rw [hwk,Int.toNat_natCast,hd];exact ownD_cells hc (a+k) hal,trivial,?_⟩,trivial⟩
     refine⟨?_,trivial⟩
     obtain⟨S1,Sa,h1,h2,h3,hO⟩:=hc.row
     refine⟨(rdo_any bk d (mayS_ok hbk.2.1 hbk.1) hdo.2 (stX bk x) S1 _ (fun b hb=>hc.ctx.lt b (h1 b hb).1) h3.1).mono fun en wq hq=>?_⟩
     obtain⟨cs,e1,hq,hrep⟩:=hq
     obtain⟨y,rfl⟩:=hrep.stX
     have hc:=hc.sepSome (X:=fun S w=>RepS S w (doS bk d).1 (stX (doS bk d).1 y)) (sR bk x) h1 h2 h3 hO (ShelfK.stab _ _ _ _ _) hq hrep (stab_S _ _)
     refine⟨_,e1,trivial,?_⟩
     refine⟨hc.s' 0 rfl fun wS hS hc=>?_,trivial⟩
     refine hc.s 1 rfl fun wS hS hc=>?_
     exact⟨(y,g18,g19),⟨rfl,rfl,rfl,rfl,rfl,rfl,rfl,rfl,rfl,rfl,rfl,rfl,trivial⟩,_,hc.swapL⟩
    refine⟨?_,?_⟩
    ·skip
     refine⟨dC d,rfl,by rw [hwk,Int.toNat_natCast,hd];exact ownD_cells hc (a+k) hal,trivial,?_⟩
     refine⟨?_,?_⟩
     ·skip
      refine hc.a' 0 rfl rfl ?_
      refine⟨?_,?_⟩
      ·skip
       obtain⟨S1,Sa,h1,h2,h3,hO⟩:=hc.row
       refine⟨(rdo_any bk d (mayS_ok hbk.2.1 hbk.1) hdo.2 (stX bk x) S1 _ (fun b hb=>hc.ctx.lt b (h1 b hb).1) h3.1).mono fun en wq hq=>?_⟩
       obtain⟨cs,e1,hq,hrep⟩:=hq
       obtain⟨y,rfl⟩:=hrep.stX
       have hc:=hc.sepSome (X:=fun S w=>RepS S w (doS bk d).1 (stX (doS bk d).1 y)) (sR bk x) h1 h2 h3 hO (ShelfK.stab _ _ _ _ _) hq hrep (stab_S _ _)
       refine⟨_,e1,trivial,?_⟩
       refine⟨?_,?_⟩
       ·skip
        refine hc.n' fun g18 wg18 hg18 hc=>?_
        refine⟨hc.n' fun g19 wg19 hg19 hc=>?_,trivial⟩
        refine⟨hc.s' 1 rfl fun wS hS hc=>?_,trivial⟩
        refine hc.s 0 rfl fun wS hS hc=>?_
        exact⟨(y,g18,g19),⟨rfl,rfl,rfl,rfl,rfl,rfl,rfl,rfl,rfl,rfl,rfl,rfl,trivial⟩,_,hc⟩
       refine⟨hc.n' fun g19 wg19 hg19 hc=>?_,trivial⟩
       refine⟨hc.n' fun g18 wg18 hg18 hc=>?_,trivial⟩
       refine⟨hc.s' 0 rfl fun wS hS hc=>?_,trivial⟩
       refine hc.s 1 rfl fun wS hS hc=>?_
       exact⟨(y,g18,g19),⟨rfl,rfl,rfl,rfl,rfl,rfl,rfl,rfl,rfl,rfl,rfl,rfl,trivial⟩,_,hc.swapL⟩
      refine⟨?_,?_⟩
      ·skip
       refine hc.n' fun g18 wg18 hg18 hc=>?_
       refine⟨?_,?_⟩
       ·skip
        obtain⟨S1,Sa,h1,h2,h3,hO⟩:=hc.row
        refine⟨(rdo_any bk d (mayS_ok hbk.2.1 hbk.1) hdo.2 (stX bk x) S1 _ (fun b hb=>hc.ctx.lt b (h1 b hb).1) h3.1).mono fun en wq hq=>?_⟩
        obtain⟨cs,e1,hq,hrep⟩:=hq
        obtain⟨y,rfl⟩:=hrep.stX
        have hc:=hc.sepSome (X:=fun S w=>RepS S w (doS bk d).1 (stX (doS bk d).1 y)) (sR bk x) h1 h2 h3 hO (ShelfK.stab _ _ _ _ _) hq hrep (stab_S _ _)
        refine⟨_,e1,trivial,?_⟩
        refine⟨hc.n' fun g19 wg19 hg19 hc=>?_,trivial⟩
        refine⟨hc.s' 1 rfl fun wS hS hc=>?_,trivial⟩
        refine hc.s 0 rfl fun wS hS hc=>?_
        exact⟨(y,g18,g19),⟨rfl,rfl,rfl,rfl,rfl,rfl,rfl,rfl,rfl,rfl,rfl,rfl,trivial⟩,_,hc⟩
       refine⟨hc.n' fun g19 wg19 hg19 hc=>?_,trivial⟩
       refine⟨?_,trivial⟩
       obtain⟨S1,Sa,h1,h2,h3,hO⟩:=hc.row
       refine⟨(rdo_any bk d (mayS_ok hbk.2.1 hbk.1) hdo.2 (stX bk x) S1 _ (fun b hb=>hc.ctx.lt b (h1 b hb).1) h3.1).mono fun en wq hq=>?_⟩
       obtain⟨cs,e1,hq,hrep⟩:=hq
       obtain⟨y,rfl⟩:=hrep.stX
       have hc:=hc.sepSome (X:=fun S w=>RepS S w (doS bk d).1 (stX (doS bk d).1 y)) (sR bk x) h1 h2 h3 hO (ShelfK.stab _ _ _ _ _) hq hrep (stab_S _ _)
       refine⟨_,e1,trivial,?_⟩
       refine⟨hc.s' 1 rfl fun wS hS hc=>?_,trivial⟩
       refine hc.s 0 rfl fun wS hS hc=>?_
       exact⟨(y,g18,g19),⟨rfl,rfl,rfl,rfl,rfl,rfl,rfl,rfl,rfl,rfl,rfl,rfl,trivial⟩,_,hc⟩
      refine⟨hc.n' fun g19 wg19 hg19 hc=>?_,trivial⟩
      refine⟨?_,?_⟩
      ·skip
       obtain⟨S1,Sa,h1,h2,h3,hO⟩:=hc.row
       refine⟨(rdo_any bk d (mayS_ok hbk.2.1 hbk.1) hdo.2 (stX bk x) S1 _ (fun b hb=>hc.ctx.lt b (h1 b hb).1) h3.1).mono fun en wq hq=>?_⟩
       obtain⟨cs,e1,hq,hrep⟩:=hq
       obtain⟨y,rfl⟩:=hrep.stX
       have hc:=hc.sepSome (X:=fun S w=>RepS S w (doS bk d).1 (stX (doS bk d).1 y)) (sR bk x) h1 h2 h3 hO (ShelfK.stab _ _ _ _ _) hq hrep (stab_S _ _)
       refine⟨_,e1,trivial,?_⟩
       refine⟨hc.n' fun g18 wg18 hg18 hc=>?_,trivial⟩
       refine⟨hc.s' 0 rfl fun wS hS hc=>?_,trivial⟩
       refine hc.s 1 rfl fun wS hS hc=>?_
       exact⟨(y,g18,g19),⟨rfl,rfl,rfl,rfl,rfl,rfl,rfl,rfl,rfl,rfl,rfl,rfl,trivial⟩,_,hc.swapL⟩
      refine⟨hc.n' fun g18 wg18 hg18 hc=>?_,trivial⟩
      refine⟨?_,trivial⟩
      obtain⟨S1,Sa,h1,h2,h3,hO⟩:=hc.row
      refine⟨(rdo_any bk d (mayS_ok hbk.2.1 hbk.1) hdo.2 (stX bk x) S1 _ (fun b hb=>hc.ctx.lt b (h1 b hb).1) h3.1).mono fun en wq hq=>?_⟩
      obtain⟨cs,e1,hq,hrep⟩:=hq
      obtain⟨y,rfl⟩:=hrep.stX
      have hc:=hc.sepSome (X:=fun S w=>RepS S w (doS bk d).1 (stX (doS bk d).1 y)) (sR bk x) h1 h2 h3 hO (ShelfK.stab _ _ _ _ _) hq hrep (stab_S _ _)
      refine⟨_,e1,trivial,?_⟩
      refine⟨hc.s' 0 rfl fun wS hS hc=>?_,trivial⟩
      refine hc.s 1 rfl fun wS hS hc=>?_
      exact⟨(y,g18,g19),⟨rfl,rfl,rfl,rfl,rfl,rfl,rfl,rfl,rfl,rfl,rfl,rfl,trivial⟩,_,hc.swapL⟩
     refine⟨?_,?_⟩
     ·skip
      refine hc.n' fun g18 wg18 hg18 hc=>?_
      refine⟨?_,?_⟩
      ·skip
       refine hc.a' 1 rfl rfl ?_
       refine⟨?_,?_⟩
       ·skip
        obtain⟨S1,Sa,h1,h2,h3,hO⟩:=hc.row
        refine⟨(rdo_any bk d (mayS_ok hbk.2.1 hbk.1) hdo.2 (stX bk x) S1 _ (fun b hb=>hc.ctx.lt b (h1 b hb).1) h3.1).mono fun en wq hq=>?_⟩
        obtain⟨cs,e1,hq,hrep⟩:=hq
        obtain⟨y,rfl⟩:=hrep.stX
        have hc:=hc.sepSome (X:=fun S w=>RepS S w (doS bk d).1 (stX (doS bk d).1 y)) (sR bk x) h1 h2 h3 hO (ShelfK.stab _ _ _ _ _) hq hrep (stab_S _ _)
        refine⟨_,e1,trivial,?_⟩
        refine⟨hc.n' fun g19 wg19 hg19 hc=>?_,trivial⟩
        refine⟨hc.s' 1 rfl fun wS hS hc=>?_,trivial⟩
        refine hc.s 0 rfl fun wS hS hc=>?_
        exact⟨(y,g18,g19),⟨rfl,rfl,rfl,rfl,rfl,rfl,rfl,rfl,rfl,rfl,rfl,rfl,trivial⟩,_,hc⟩
       refine⟨hc.n' fun g19 wg19 hg19 hc=>?_,trivial⟩
       refine⟨?_,trivial⟩
       obtain⟨S1,Sa,h1,h2,h3,hO⟩:=hc.row
       refine⟨(rdo_any bk d (mayS_ok hbk.2.1 hbk.1) hdo.2 (stX bk x) S1 _ (fun b hb=>hc.ctx.lt b (h1 b hb).1) h3.1).mono fun en wq hq=>?_⟩
       obtain⟨cs,e1,hq,hrep⟩:=hq
       obtain⟨y,rfl⟩:=hrep.stX
       have hc:=hc.sepSome (X:=fun S w=>RepS S w (doS bk d).1 (stX (doS bk d).1 y)) (sR bk x) h1 h2 h3 hO (ShelfK.stab _ _ _ _ _) hq hrep (stab_S _ _)
       refine⟨_,e1,trivial,?_⟩
       refine⟨hc.s' 1 rfl fun wS hS hc=>?_,trivial⟩
       refine hc.s 0 rfl fun wS hS hc=>?_
       exact⟨(y,g18,g19),⟨rfl,rfl,rfl,rfl,rfl,rfl,rfl,rfl,rfl,rfl,rfl,rfl,trivial⟩,_,hc⟩
      refine⟨hc.n' fun g19 wg19 hg19 hc=>?_,trivial⟩
      refine⟨hc.a' 2 rfl rfl ?_,trivial⟩
      refine⟨?_,trivial⟩
      obtain⟨S1,Sa,h1,h2,h3,hO⟩:=hc.row
      refine⟨(rdo_any bk d (mayS_ok hbk.2.1 hbk.1) hdo.2 (stX bk x) S1 _ (fun b hb=>hc.ctx.lt b (h1 b hb).1) h3.1).mono fun en wq hq=>?_⟩
      obtain⟨cs,e1,hq,hrep⟩:=hq
      obtain⟨y,rfl⟩:=hrep.stX
      have hc:=hc.sepSome (X:=fun S w=>RepS S w (doS bk d).1 (stX (doS bk d).1 y)) (sR bk x) h1 h2 h3 hO (ShelfK.stab _ _ _ _ _) hq hrep (stab_S _ _)
      refine⟨_,e1,trivial,?_⟩
      refine⟨hc.s' 1 rfl fun wS hS hc=>?_,trivial⟩
      refine hc.s 0 rfl fun wS hS hc=>?_
      exact⟨(y,g18,g19),⟨rfl,rfl,rfl,rfl,rfl,rfl,rfl,rfl,rfl,rfl,rfl,rfl,trivial⟩,_,hc⟩
     refine⟨hc.n' fun g19 wg19 hg19 hc=>?_,trivial⟩
     refine⟨?_,?_⟩
     ·skip
      refine hc.a' 1 rfl rfl ?_
      refine⟨?_,?_⟩
      ·skip
       obtain⟨S1,Sa,h1,h2,h3,hO⟩:=hc.row
       refine⟨(rdo_any bk d (mayS_ok hbk.2.1 hbk.1) hdo.2 (stX bk x) S1 _ (fun b hb=>hc.ctx.lt b (h1 b hb).1) h3.1).mono fun en wq hq=>?_⟩
       obtain⟨cs,e1,hq,hrep⟩:=hq
       obtain⟨y,rfl⟩:=hrep.stX
       have hc:=hc.sepSome (X:=fun S w=>RepS S w (doS bk d).1 (stX (doS bk d).1 y)) (sR bk x) h1 h2 h3 hO (ShelfK.stab _ _ _ _ _) hq hrep (stab_S _ _)
       refine⟨_,e1,trivial,?_⟩
       refine⟨hc.n' fun g18 wg18 hg18 hc=>?_,trivial⟩
       refine⟨hc.s' 0 rfl fun wS hS hc=>?_,trivial⟩
       refine hc.s 1 rfl fun wS hS hc=>?_
       exact⟨(y,g18,g19),⟨rfl,rfl,rfl,rfl,rfl,rfl,rfl,rfl,rfl,rfl,rfl,rfl,trivial⟩,_,hc.swapL⟩
      refine⟨hc.n' fun g18 wg18 hg18 hc=>?_,trivial⟩
      refine⟨?_,trivial⟩
      obtain⟨S1,Sa,h1,h2,h3,hO⟩:=hc.row
      refine⟨(rdo_any bk d (mayS_ok hbk.2.1 hbk.1) hdo.2 (stX bk x) S1 _ (fun b hb=>hc.ctx.lt b (h1 b hb).1) h3.1).mono fun en wq hq=>?_⟩
      obtain⟨cs,e1,hq,hrep⟩:=hq
      obtain⟨y,rfl⟩:=hrep.stX
      have hc:=hc.sepSome (X:=fun S w=>RepS S w (doS bk d).1 (stX (doS bk d).1 y)) (sR bk x) h1 h2 h3 hO (ShelfK.stab _ _ _ _ _) hq hrep (stab_S _ _)
      refine⟨_,e1,trivial,?_⟩
      refine⟨hc.s' 0 rfl fun wS hS hc=>?_,trivial⟩
      refine hc.s 1 rfl fun wS hS hc=>?_
      exact⟨(y,g18,g19),⟨rfl,rfl,rfl,rfl,rfl,rfl,rfl,rfl,rfl,rfl,rfl,rfl,trivial⟩,_,hc.swapL⟩
     refine⟨hc.n' fun g18 wg18 hg18 hc=>?_,trivial⟩
     refine⟨hc.a' 2 rfl rfl ?_,trivial⟩
     refine⟨?_,trivial⟩
     obtain⟨S1,Sa,h1,h2,h3,hO⟩:=hc.row
     refine⟨(rdo_any bk d (mayS_ok hbk.2.1 hbk.1) hdo.2 (stX bk x) S1 _ (fun b hb=>hc.ctx.lt b (h1 b hb).1) h3.1).mono fun en wq hq=>?_⟩
     obtain⟨cs,e1,hq,hrep⟩:=hq
     obtain⟨y,rfl⟩:=hrep.stX
     have hc:=hc.sepSome (X:=fun S w=>RepS S w (doS bk d).1 (stX (doS bk d).1 y)) (sR bk x) h1 h2 h3 hO (ShelfK.stab _ _ _ _ _) hq hrep (stab_S _ _)
     refine⟨_,e1,trivial,?_⟩
     refine⟨hc.s' 0 rfl fun wS hS hc=>?_,trivial⟩
     refine hc.s 1 rfl fun wS hS hc=>?_
     exact⟨(y,g18,g19),⟨rfl,rfl,rfl,rfl,rfl,rfl,rfl,rfl,rfl,rfl,rfl,rfl,trivial⟩,_,hc.swapL⟩
    refine⟨?_,?_⟩
    ·skip
     refine hc.n' fun g18 wg18 hg18 hc=>?_
     refine⟨?_,?_⟩
     ·skip
      refine hc.a' 1 rfl rfl ?_
      refine⟨?_,?_⟩
      ·skip
       refine⟨dC d,rfl,by rw [hwk,Int.toNat_natCast,hd];exact ownD_cells hc (a+k) hal,trivial,?_⟩
       refine⟨?_,?_⟩
       ·skip
        obtain⟨S1,Sa,h1,h2,h3,hO⟩:=hc.row
        refine⟨(rdo_any bk d (mayS_ok hbk.2.1 hbk.1) hdo.2 (stX bk x) S1 _ (fun b hb=>hc.ctx.lt b (h1 b hb).1) h3.1).mono fun en wq hq=>?_⟩
        obtain⟨cs,e1,hq,hrep⟩:=hq
        obtain⟨y,rfl⟩:=hrep.stX
        have hc:=hc.sepSome (X:=fun S w=>RepS S w (doS bk d).1 (stX (doS bk d).1 y)) (sR bk x) h1 h2 h3 hO (ShelfK.stab _ _ _ _ _) hq hrep (stab_S _ _)
        refine⟨_,e1,trivial,?_⟩
        refine⟨hc.n' fun g19 wg19 hg19 hc=>?_,trivial⟩
        refine⟨hc.s' 1 rfl fun wS hS hc=>?_,trivial⟩
        refine hc.s 0 rfl fun wS hS hc=>?_
        exact⟨(y,g18,g19),⟨rfl,rfl,rfl,rfl,rfl,rfl,rfl,rfl,rfl,rfl,rfl,rfl,trivial⟩,_,hc⟩
       refine⟨hc.n' fun g19 wg19 hg19 hc=>?_,trivial⟩
       refine⟨?_,trivial⟩
       obtain⟨S1,Sa,h1,h2,h3,hO⟩:=hc.row
       refine⟨(rdo_any bk d (mayS_ok hbk.2.1 hbk.1) hdo.2 (stX bk x) S1 _ (fun b hb=>hc.ctx.lt b (h1 b hb).1) h3.1).mono fun en wq hq=>?_⟩
       obtain⟨cs,e1,hq,hrep⟩:=hq
       obtain⟨y,rfl⟩:=hrep.stX
       have hc:=hc.sepSome (X:=fun S w=>RepS S w (doS bk d).1 (stX (doS bk d).1 y)) (sR bk x) h1 h2 h3 hO (ShelfK.stab _ _ _ _ _) hq hrep (stab_S _ _)
       refine⟨_,e1,trivial,?_⟩
       refine⟨hc.s' 1 rfl fun wS hS hc=>?_,trivial⟩
       refine hc.s 0 rfl fun wS hS hc=>?_
       exact⟨(y,g18,g19),⟨rfl,rfl,rfl,rfl,rfl,rfl,rfl,rfl,rfl,rfl,rfl,rfl,trivial⟩,_,hc⟩
      refine⟨hc.n' fun g19 wg19 hg19 hc=>?_,trivial⟩
      refine⟨⟨dC d,rfl,by rw [hwk,Int.toNat_natCast,hd];exact ownD_cells hc (a+k) hal,trivial,?_⟩,trivial⟩
      refine⟨?_,trivial⟩
      obtain⟨S1,Sa,h1,h2,h3,hO⟩:=hc.row
      refine⟨(rdo_any bk d (mayS_ok hbk.2.1 hbk.1) hdo.2 (stX bk x) S1 _ (fun b hb=>hc.ctx.lt b (h1 b hb).1) h3.1).mono fun en wq hq=>?_⟩
      obtain⟨cs,e1,hq,hrep⟩:=hq
      obtain⟨y,rfl⟩:=hrep.stX
      have hc:=hc.sepSome (X:=fun S w=>RepS S w (doS bk d).1 (stX (doS bk d).1 y)) (sR bk x) h1 h2 h3 hO (ShelfK.stab _ _ _ _ _) hq hrep (stab_S _ _)
      refine⟨_,e1,trivial,?_⟩
      refine⟨hc.s' 1 rfl fun wS hS hc=>?_,trivial⟩
      refine hc.s 0 rfl fun wS hS hc=>?_
      exact⟨(y,g18,g19),⟨rfl,rfl,rfl,rfl,rfl,rfl,rfl,rfl,rfl,rfl,rfl,rfl,trivial⟩,_,hc⟩
     refine⟨?_,?_⟩
     ·skip
      refine⟨dC d,rfl,by rw [hwk,Int.toNat_natCast,hd];exact ownD_cells hc (a+k) hal,trivial,?_⟩
      refine⟨?_,?_⟩
      ·skip
       refine hc.a' 1 rfl rfl ?_
       refine⟨?_,?_⟩
       ·skip
        obtain⟨S1,Sa,h1,h2,h3,hO⟩:=hc.row
        refine⟨(rdo_any bk d (mayS_ok hbk.2.1 hbk.1) hdo.2 (stX bk x) S1 _ (fun b hb=>hc.ctx.lt b (h1 b hb).1) h3.1).mono fun en wq hq=>?_⟩
        obtain⟨cs,e1,hq,hrep⟩:=hq
        obtain⟨y,rfl⟩:=hrep.stX
        have hc:=hc.sepSome (X:=fun S w=>RepS S w (doS bk d).1 (stX (doS bk d).1 y)) (sR bk x) h1 h2 h3 hO (ShelfK.stab _ _ _ _ _) hq hrep (stab_S _ _)
        refine⟨_,e1,trivial,?_⟩
        refine⟨hc.n' fun g19 wg19 hg19 hc=>?_,trivial⟩
        refine⟨hc.s' 1 rfl fun wS hS hc=>?_,trivial⟩
        refine hc.s 0 rfl fun wS hS hc=>?_
        exact⟨(y,g18,g19),⟨rfl,rfl,rfl,rfl,rfl,rfl,rfl,rfl,rfl,rfl,rfl,rfl,trivial⟩,_,hc⟩
       refine⟨hc.n' fun g19 wg19 hg19 hc=>?_,trivial⟩
       refine⟨?_,trivial⟩
       obtain⟨S1,Sa,h1,h2,h3,hO⟩:=hc.row
       refine⟨(rdo_any bk d (mayS_ok hbk.2.1 hbk.1) hdo.2 (stX bk x) S1 _ (fun b hb=>hc.ctx.lt b (h1 b hb).1) h3.1).mono fun en wq hq=>?_⟩
       obtain⟨cs,e1,hq,hrep⟩:=hq
       obtain⟨y,rfl⟩:=hrep.stX
       have hc:=hc.sepSome (X:=fun S w=>RepS S w (doS bk d).1 (stX (doS bk d).1 y)) (sR bk x) h1 h2 h3 hO (ShelfK.stab _ _ _ _ _) hq hrep (stab_S _ _)
       refine⟨_,e1,trivial,?_⟩
       refine⟨hc.s' 1 rfl fun wS hS hc=>?_,trivial⟩
       refine hc.s 0 rfl fun wS hS hc=>?_
       exact⟨(y,g18,g19),⟨rfl,rfl,rfl,rfl,rfl,rfl,rfl,rfl,rfl,rfl,rfl,rfl,trivial⟩,_,hc⟩
      refine⟨hc.n' fun g19 wg19 hg19 hc=>?_,trivial⟩
      refine⟨hc.a' 2 rfl rfl ?_,trivial⟩
      refine⟨?_,trivial⟩
      obtain⟨S1,Sa,h1,h2,h3,hO⟩:=hc.row
      refine⟨(rdo_any bk d (mayS_ok hbk.2.1 hbk.1) hdo.2 (stX bk x) S1 _ (fun b hb=>hc.ctx.lt b (h1 b hb).1) h3.1).mono fun en wq hq=>?_⟩
      obtain⟨cs,e1,hq,hrep⟩:=hq
      obtain⟨y,rfl⟩:=hrep.stX
      have hc:=hc.sepSome (X:=fun S w=>RepS S w (doS bk d).1 (stX (doS bk d).1 y)) (sR bk x) h1 h2 h3 hO (ShelfK.stab _ _ _ _ _) hq hrep (stab_S _ _)
      refine⟨_,e1,trivial,?_⟩
      refine⟨hc.s' 1 rfl fun wS hS hc=>?_,trivial⟩
      refine hc.s 0 rfl fun wS hS hc=>?_
      exact⟨(y,g18,g19),⟨rfl,rfl,rfl,rfl,rfl,rfl,rfl,rfl,rfl,rfl,rfl,rfl,trivial⟩,_,hc⟩
     refine⟨hc.n' fun g19 wg19 hg19 hc=>?_,trivial⟩
     refine⟨?_,?_⟩
     ·skip
      refine hc.a' 2 rfl rfl ?_
      refine⟨⟨dC d,rfl,by rw [hwk,Int.toNat_natCast,hd];exact ownD_cells hc (a+k) hal,trivial,?_⟩,trivial⟩
      refine⟨?_,trivial⟩
      obtain⟨S1,Sa,h1,h2,h3,hO⟩:=hc.row
      refine⟨(rdo_any bk d (mayS_ok hbk.2.1 hbk.1) hdo.2 (stX bk x) S1 _ (fun b hb=>hc.ctx.lt b (h1 b hb).1) h3.1).mono fun en wq hq=>?_⟩
      obtain⟨cs,e1,hq,hrep⟩:=hq
      obtain⟨y,rfl⟩:=hrep.stX
      have hc:=hc.sepSome (X:=fun S w=>RepS S w (doS bk d).1 (stX (doS bk d).1 y)) (sR bk x) h1 h2 h3 hO (ShelfK.stab _ _ _ _ _) hq hrep (stab_S _ _)
      refine⟨_,e1,trivial,?_⟩
      refine⟨hc.s' 1 rfl fun wS hS hc=>?_,trivial⟩
      refine hc.s 0 rfl fun wS hS hc=>?_
      exact⟨(y,g18,g19),⟨rfl,rfl,rfl,rfl,rfl,rfl,rfl,rfl,rfl,rfl,rfl,rfl,trivial⟩,_,hc⟩
     refine⟨⟨dC d,rfl,by rw [hwk,Int.toNat_natCast,hd];exact ownD_cells hc (a+k) hal,trivial,?_⟩,trivial⟩
     refine⟨hc.a' 2 rfl rfl ?_,trivial⟩
     refine⟨?_,trivial⟩
     obtain⟨S1,Sa,h1,h2,h3,hO⟩:=hc.row
     refine⟨(rdo_any bk d (mayS_ok hbk.2.1 hbk.1) hdo.2 (stX bk x) S1 _ (fun b hb=>hc.ctx.lt b (h1 b hb).1) h3.1).mono fun en wq hq=>?_⟩
     obtain⟨cs,e1,hq,hrep⟩:=hq
     obtain⟨y,rfl⟩:=hrep.stX
     have hc:=hc.sepSome (X:=fun S w=>RepS S w (doS bk d).1 (stX (doS bk d).1 y)) (sR bk x) h1 h2 h3 hO (ShelfK.stab _ _ _ _ _) hq hrep (stab_S _ _)
     refine⟨_,e1,trivial,?_⟩
     refine⟨hc.s' 1 rfl fun wS hS hc=>?_,trivial⟩
     refine hc.s 0 rfl fun wS hS hc=>?_
     exact⟨(y,g18,g19),⟨rfl,rfl,rfl,rfl,rfl,rfl,rfl,rfl,rfl,rfl,rfl,rfl,trivial⟩,_,hc⟩
    refine⟨hc.n' fun g19 wg19 hg19 hc=>?_,trivial⟩
    refine⟨?_,?_⟩
    ·skip
     refine hc.a' 1 rfl rfl ?_
     refine⟨?_,?_⟩
     ·skip
      refine⟨dC d,rfl,by rw [hwk,Int.toNat_natCast,hd];exact ownD_cells hc (a+k) hal,trivial,?_⟩
      refine⟨?_,?_⟩
      ·skip
       obtain⟨S1,Sa,h1,h2,h3,hO⟩:=hc.row
       refine⟨(rdo_any bk d (mayS_ok hbk.2.1 hbk.1) hdo.2 (stX bk x) S1 _ (fun b hb=>hc.ctx.lt b (h1 b hb).1) h3.1).mono fun en wq hq=>?_⟩
       obtain⟨cs,e1,hq,hrep⟩:=hq
       obtain⟨y,rfl⟩:=hrep.stX
       have hc:=hc.sepSome (X:=fun S w=>RepS S w (doS bk d).1 (stX (doS bk d).1 y)) (sR bk x) h1 h2 h3 hO (ShelfK.stab _ _ _ _ _) hq hrep (stab_S _ _)
       refine⟨_,e1,trivial,?_⟩
       refine⟨hc.n' fun g18 wg18 hg18 hc=>?_,trivial⟩
       refine⟨hc.s' 0 rfl fun wS hS hc=>?_,trivial⟩
       refine hc.s 1 rfl fun wS hS hc=>?_
       exact⟨(y,g18,g19),⟨rfl,rfl,rfl,rfl,rfl,rfl,rfl,rfl,rfl,rfl,rfl,rfl,trivial⟩,_,hc.swapL⟩
      refine⟨hc.n' fun g18 wg18 hg18 hc=>?_,trivial⟩
      refine⟨?_,trivial⟩
      obtain⟨S1,Sa,h1,h2,h3,hO⟩:=hc.row
      refine⟨(rdo_any bk d (mayS_ok hbk.2.1 hbk.1) hdo.2 (stX bk x) S1 _ (fun b hb=>hc.ctx.lt b (h1 b hb).1) h3.1).mono fun en wq hq=>?_⟩
      obtain⟨cs,e1,hq,hrep⟩:=hq
      obtain⟨y,rfl⟩:=hrep.stX
      have hc:=hc.sepSome (X:=fun S w=>RepS S w (doS bk d).1 (stX (doS bk d).1 y)) (sR bk x) h1 h2 h3 hO (ShelfK.stab _ _ _ _ _) hq hrep (stab_S _ _)
      refine⟨_,e1,trivial,?_⟩
      refine⟨hc.s' 0 rfl fun wS hS hc=>?_,trivial⟩
      refine hc.s 1 rfl fun wS hS hc=>?_
      exact⟨(y,g18,g19),⟨rfl,rfl,rfl,rfl,rfl,rfl,rfl,rfl,rfl,rfl,rfl,rfl,trivial⟩,_,hc.swapL⟩
     refine⟨hc.n' fun g18 wg18 hg18 hc=>?_,trivial⟩
     refine⟨⟨dC d,rfl,by rw [hwk,Int.toNat_natCast,hd];exact ownD_cells hc (a+k) hal,trivial,?_⟩,trivial⟩
     refine⟨?_,trivial⟩
     obtain⟨S1,Sa,h1,h2,h3,hO⟩:=hc.row
     refine⟨(rdo_any bk d (mayS_ok hbk.2.1 hbk.1) hdo.2 (stX bk x) S1 _ (fun b hb=>hc.ctx.lt b (h1 b hb).1) h3.1).mono fun en wq hq=>?_⟩
     obtain⟨cs,e1,hq,hrep⟩:=hq
     obtain⟨y,rfl⟩:=hrep.stX
     have hc:=hc.sepSome (X:=fun S w=>RepS S w (doS bk d).1 (stX (doS bk d).1 y)) (sR bk x) h1 h2 h3 hO (ShelfK.stab _ _ _ _ _) hq hrep (stab_S _ _)
     refine⟨_,e1,trivial,?_⟩
     refine⟨hc.s' 0 rfl fun wS hS hc=>?_,trivial⟩
     refine hc.s 1 rfl fun wS hS hc=>?_
     exact⟨(y,g18,g19),⟨rfl,rfl,rfl,rfl,rfl,rfl,rfl,rfl,rfl,rfl,rfl,rfl,trivial⟩,_,hc.swapL⟩
    refine⟨?_,?_⟩
    ·skip
     refine⟨dC d,rfl,by rw [hwk,Int.toNat_natCast,hd];exact ownD_cells hc (a+k) hal,trivial,?_⟩
     refine⟨?_,?_⟩
     ·skip
      refine hc.a' 1 rfl rfl ?_
      refine⟨?_,?_⟩
      ·skip
       obtain⟨S1,Sa,h1,h2,h3,hO⟩:=hc.row
       refine⟨(rdo_any bk d (mayS_ok hbk.2.1 hbk.1) hdo.2 (stX bk x) S1 _ (fun b hb=>hc.ctx.lt b (h1 b hb).1) h3.1).mono fun en wq hq=>?_⟩
       obtain⟨cs,e1,hq,hrep⟩:=hq
       obtain⟨y,rfl⟩:=hrep.stX
       have hc:=hc.sepSome (X:=fun S w=>RepS S w (doS bk d).1 (stX (doS bk d).1 y)) (sR bk x) h1 h2 h3 hO (ShelfK.stab _ _ _ _ _) hq hrep (stab_S _ _)
       refine⟨_,e1,trivial,?_⟩
       refine⟨hc.n' fun g18 wg18 hg18 hc=>?_,trivial⟩
       refine⟨hc.s' 0 rfl fun wS hS hc=>?_,trivial⟩
       refine hc.s 1 rfl fun wS hS hc=>?_
       exact⟨(y,g18,g19),⟨rfl,rfl,rfl,rfl,rfl,rfl,rfl,rfl,rfl,rfl,rfl,rfl,trivial⟩,_,hc.swapL⟩
      refine⟨hc.n' fun g18 wg18 hg18 hc=>?_,trivial⟩
      refine⟨?_,trivial⟩
      obtain⟨S1,Sa,h1,h2,h3,hO⟩:=hc.row
      refine⟨(rdo_any bk d (mayS_ok hbk.2.1 hbk.1) hdo.2 (stX bk x) S1 _ (fun b hb=>hc.ctx.lt b (h1 b hb).1) h3.1).mono fun en wq hq=>?_⟩
      obtain⟨cs,e1,hq,hrep⟩:=hq
      obtain⟨y,rfl⟩:=hrep.stX
      have hc:=hc.sepSome (X:=fun S w=>RepS S w (doS bk d).1 (stX (doS bk d).1 y)) (sR bk x) h1 h2 h3 hO (ShelfK.stab _ _ _ _ _) hq hrep (stab_S _ _)
      refine⟨_,e1,trivial,?_⟩
      refine⟨hc.s' 0 rfl fun wS hS hc=>?_,trivial⟩
      refine hc.s 1 rfl fun wS hS hc=>?_
      exact⟨(y,g18,g19),⟨rfl,rfl,rfl,rfl,rfl,rfl,rfl,rfl,rfl,rfl,rfl,rfl,trivial⟩,_,hc.swapL⟩
     refine⟨hc.n' fun g18 wg18 hg18 hc=>?_,trivial⟩
     refine⟨hc.a' 2 rfl rfl ?_,trivial⟩
     refine⟨?_,trivial⟩
     obtain⟨S1,Sa,h1,h2,h3,hO⟩:=hc.row
     refine⟨(rdo_any bk d (mayS_ok hbk.2.1 hbk.1) hdo.2 (stX bk x) S1 _ (fun b hb=>hc.ctx.lt b (h1 b hb).1) h3.1).mono fun en wq hq=>?_⟩
     obtain⟨cs,e1,hq,hrep⟩:=hq
     obtain⟨y,rfl⟩:=hrep.stX
     have hc:=hc.sepSome (X:=fun S w=>RepS S w (doS bk d).1 (stX (doS bk d).1 y)) (sR bk x) h1 h2 h3 hO (ShelfK.stab _ _ _ _ _) hq hrep (stab_S _ _)
     refine⟨_,e1,trivial,?_⟩
     refine⟨hc.s' 0 rfl fun wS hS hc=>?_,trivial⟩
     refine hc.s 1 rfl fun wS hS hc=>?_
     exact⟨(y,g18,g19),⟨rfl,rfl,rfl,rfl,rfl,rfl,rfl,rfl,rfl,rfl,rfl,rfl,trivial⟩,_,hc.swapL⟩
    refine⟨hc.n' fun g18 wg18 hg18 hc=>?_,trivial⟩
    refine⟨?_,?_⟩
    ·skip
     refine hc.a' 2 rfl rfl ?_
     refine⟨⟨dC d,rfl,by rw [hwk,Int.toNat_natCast,hd];exact ownD_cells hc (a+k) hal,trivial,?_⟩,trivial⟩
     refine⟨?_,trivial⟩
     obtain⟨S1,Sa,h1,h2,h3,hO⟩:=hc.row
     refine⟨(rdo_any bk d (mayS_ok hbk.2.1 hbk.1) hdo.2 (stX bk x) S1 _ (fun b hb=>hc.ctx.lt b (h1 b hb).1) h3.1).mono fun en wq hq=>?_⟩
     obtain⟨cs,e1,hq,hrep⟩:=hq
     obtain⟨y,rfl⟩:=hrep.stX
     have hc:=hc.sepSome (X:=fun S w=>RepS S w (doS bk d).1 (stX (doS bk d).1 y)) (sR bk x) h1 h2 h3 hO (ShelfK.stab _ _ _ _ _) hq hrep (stab_S _ _)
     refine⟨_,e1,trivial,?_⟩
     refine⟨hc.s' 0 rfl fun wS hS hc=>?_,trivial⟩
     refine hc.s 1 rfl fun wS hS hc=>?_
     exact⟨(y,g18,g19),⟨rfl,rfl,rfl,rfl,rfl,rfl,rfl,rfl,rfl,rfl,rfl,rfl,trivial⟩,_,hc.swapL⟩
    refine⟨⟨dC d,rfl,by rw [hwk,Int.toNat_natCast,hd];exact ownD_cells hc (a+k) hal,trivial,?_⟩,trivial⟩
    refine⟨hc.a' 2 rfl rfl ?_,trivial⟩
    refine⟨?_,trivial⟩
    obtain⟨S1,Sa,h1,h2,h3,hO⟩:=hc.row
    refine⟨(rdo_any bk d (mayS_ok hbk.2.1 hbk.1) hdo.2 (stX bk x) S1 _ (fun b hb=>hc.ctx.lt b (h1 b hb).1) h3.1).mono fun en wq hq=>?_⟩
    obtain⟨cs,e1,hq,hrep⟩:=hq
    obtain⟨y,rfl⟩:=hrep.stX
    have hc:=hc.sepSome (X:=fun S w=>RepS S w (doS bk d).1 (stX (doS bk d).1 y)) (sR bk x) h1 h2 h3 hO (ShelfK.stab _ _ _ _ _) hq hrep (stab_S _ _)
    refine⟨_,e1,trivial,?_⟩
    refine⟨hc.s' 0 rfl fun wS hS hc=>?_,trivial⟩
    refine hc.s 1 rfl fun wS hS hc=>?_
    exact⟨(y,g18,g19),⟨rfl,rfl,rfl,rfl,rfl,rfl,rfl,rfl,rfl,rfl,rfl,rfl,trivial⟩,_,hc.swapL⟩
   clear hc
   rintro⟨y,g18,g19⟩ u4 w4 ⟨S,hc⟩
   have hlk:k<((all.drop a).take n).length:=by rw [List.length_take,List.length_drop];omega
   have hdk2:((all.drop a).take n)[k]=d:=by rw [List.getElem_take,List.getElem_drop,<-hd]
   have htk:((all.drop a).take n).take k=(all.drop a).take k:=by rw [List.take_take,Nat.min_eq_left (by omega)]
   have hrg:=resS_get H.k.b ((all.drop a).take n) k hlk
   rw [hdk2,htk,<-hbk0] at hrg
   have hrk:k<(resS H.k.b ((all.drop a).take n)).length:=by rw [hrl];exact hk
   have hre:(resS H.k.b ((all.drop a).take n))[k]=(doS bk d).2:=by
    rw [List.getElem?_eq_getElem hrk] at hrg
    exact Option.some.inj hrg
   obtain⟨ar,hA1,_⟩:=RowR8.elem (hc.row.left ((sR bk x).and (stab_S _ _))).1.2 k hrk
   subst hA1
   refine Drawn.join (α:=Unit) (fun _=>[(0,.slice A ds.length ca),(1,.slice (some ad) st.length cb),(6,.pointer (some ⟨gs,0,none⟩)),(8,.slice (some ad2) all.length cc),(11,.pointer (some ⟨gB,0,none⟩)),(12,.int .i64 (a:Int)),(13,.int .i64 (i:Int)),(14,.int .i64 (n:Int)),(15,.slice (some ar) (resS H.k.b ((all.drop a).take n)).length c1),(17,.int .i64 (k:Int)),(18,.pointer (some ⟨g18,0,none⟩)),(19,.pointer (some ⟨g19,0,none⟩)),(112,.bool false)])
    (fun _ wS=>CtxF no w S wS [(g19,54,resC (doS bk d).2),(g18,43,stX (doS bk d).1 y),(gB,43,stX bk x)] [orD (some ad2) cc all] (Sep w.heap.size (fun S w=>(RepS S w bk (stX bk x)/\Row S w (some ar) (resS H.k.b ((all.drop a).take n)).length c1 ((resS H.k.b ((all.drop a).take n)).map resC).flatten)/\RepS S w (doS bk d).1 (stX (doS bk d).1 y)) (ShelfK gs gj gc b H'))) ?_ ?_
   ·refine vD (.Q [0,1,2] (.n 3 (.n 4 (.q 5 .fin) .stop) (.n 4 (.n 3 (.q 5 .fin) .stop) .stop))) (fun _=>True) trivial ?_
    have hc:=hc.drew
    refine⟨⟨by omega,by rw [hrl];omega⟩,?_⟩
    refine⟨?_,?_⟩
    ·skip
     obtain⟨ar2,hA2,hcr⟩:=RowR8.elem (hc.row.left ((sR bk x).and (stab_S _ _))).1.2 k hrk
     cases hA2
     rw [hre] at hcr
     refine⟨resC (doS bk d).2,rfl,by rw [Int.toNat_natCast];exact hcr,trivial,?_⟩
     refine⟨hc.a' 0 rfl rfl ?_,trivial⟩
     refine⟨.bool false,fun w=>res_selfN (doS bk d).2 _ _ w,?_⟩
     exact⟨(),⟨rfl,rfl,rfl,rfl,rfl,rfl,rfl,rfl,rfl,rfl,rfl,rfl,rfl,trivial⟩,hc⟩
    refine⟨hc.a' 0 rfl rfl ?_,trivial⟩
    refine⟨?_,trivial⟩
    obtain⟨ar2,hA2,hcr⟩:=RowR8.elem (hc.row.left ((sR bk x).and (stab_S _ _))).1.2 k hrk
    cases hA2
    rw [hre] at hcr
    refine⟨resC (doS bk d).2,rfl,by rw [Int.toNat_natCast];exact hcr,trivial,?_⟩
    refine⟨.bool false,fun w=>res_selfN (doS bk d).2 _ _ w,?_⟩
    exact⟨(),⟨rfl,rfl,rfl,rfl,rfl,rfl,rfl,rfl,rfl,rfl,rfl,rfl,rfl,trivial⟩,hc⟩
   clear hc
   rintro⟨⟩ u5 w5 hc
   refine hc.a 1 rfl rfl ?_
   refine hc.s 2 rfl fun wS hS hc=>?_
   have hfk:=foldS_get H.k.b ((all.drop a).take n) k hlk
   rw [hdk2,htk,<-hbk0,List.take_take,Nat.min_eq_left (by omega)] at hfk
   have hc:=(hc.sepNow (R':=fun S w=>RepS S w (doS bk d).1 (stX (doS bk d).1 y)/\Row S w (some ar) (resS H.k.b ((all.drop a).take n)).length c1 ((resS H.k.b ((all.drop a).take n)).map resC).flatten) (fun S h=>⟨h.2,h.1.2⟩) (fun _ h=>h) (sR _ _) (ShelfK.stab _ _ _ _ _)).drop.drop
   refine⟨(k+1,y),⟨rfl,rfl,rfl,rfl,rfl,rfl,rfl,rfl,rfl,congrArg _ (i_down (by omega)),trivial⟩,⟨hk,_,by rw [hfk];exact hc⟩,by show n-(k+1)<n-k;omega⟩
  refine split_f (decide_eq_false (by omega)) ?_
  obtain rfl:k=n:=by omega
  have hbn:foldS H.k.b ((all.drop a).take k)=H'.k.b:=by rw [e2]
  rw [hbn] at hc
  have hpn:H'.k.pend=all.drop (a+k):=by rw [e2]
  have hwn:IntKind.i64.wrap ((a:Int)+(k:Int))=((a+k:Nat):Int):=by rw [IntWalk.i64_in _ ⟨by omega,by omega⟩];omega
  have hfit:all.length<=cc:=hc.fst.fit.1
  have hfit2:cc<=maxLen:=hc.fst.fit.2
  refine Drawn.join (α:=Unit) (fun _=>[(0,.slice A ds.length ca),(1,.slice (some ad) st.length cb),(6,.pointer (some ⟨gs,0,none⟩)),(8,.slice C all.length cc),(11,.pointer (some ⟨gB,0,none⟩)),(12,.int .i64 ((a+k:Nat):Int)),(13,.int .i64 (i:Int)),(130,.bool false)])
   (fun _ wS=>∃ S,CtxF no w S wS [(gB,43,stX H'.k.b x)] [orD C cc all] (Sep w.heap.size (fun S w=>RepS S w H'.k.b (stX H'.k.b x)) (ShelfK gs gj gc b H'))) ?_ ?_
  ·refine vD (.q 0 (.n 1 (.n 2 (.n 3 (.Q [4,5,6,8,9,10] (.n 7 (.n 11 (.Q [12,13] .fin) .stop) .stop)) .stop) .stop) (.n 2 (.n 1 (.n 3 (.Q [4,5,6,8,9,10] (.n 7 (.n 11 (.Q [12,13] .fin) .stop) .stop)) .stop) .stop) .stop))) (fun _=>True) trivial ?_
   have hc:=hc.drew
   refine⟨?_,?_⟩
   ·skip
    refine⟨(Book_any gs gj gc b H' hf'.ok _ _ (hc.row.right (ShelfK.stab _ _ _ _ _))).mono fun en wq hq=>?_⟩
    obtain⟨cB,e1,hq,hrB⟩:=hq
    obtain⟨xB,rfl⟩:=hrB.stX
    have hc:=hc.sepKnow (X:=fun S w=>RepS S w H'.k.b (stX H'.k.b xB)) (sR H'.k.b x) (ShelfK.stab _ _ _ _ _) hq hrB (stab_S _ _)
    refine⟨_,e1,trivial,?_⟩
    refine⟨hc.a' 0 rfl rfl ?_,trivial⟩
    refine⟨?_,trivial⟩
    have heq:=reqS_any H'.k.b H'.k.b _ _ _ _ (hc.row.left ((sR H'.k.b x).and (stab_S _ _))).2 (hc.row.left ((sR H'.k.b x).and (stab_S _ _))).1.1
    rw [eqS_iff.2 rfl] at heq
    refine hc.q' (heq) fun wQ hQ hc=>?_
    refine⟨⟨by rw [hwn];omega,by rw [hwn];omega⟩,?_⟩
    refine⟨⟨(Pend_any gs gj gc b H' hf'.ok _ _ (hc.row.right (ShelfK.stab _ _ _ _ _))).mono fun en wq hq=>?_⟩,trivial⟩
    obtain⟨A3,c3,e4,hq,ho⟩:=hq
    have hrow3:=own_row hq ho no
    have hc:=(hc.quiet hq).1
    refine⟨_,e4,trivial,?_⟩
    refine⟨?_,trivial⟩
    have heq:Calls Tryz.prog 24 #[.slice A3 H'.k.pend.length c3,.slice (if (cc:Int)=IntKind.i64.wrap ((a:Int)+(k:Int)) then C else C.map (·.add ((IntKind.i64.wrap ((a:Int)+(k:Int))).toNat*8))) ((all.length:Int)-IntKind.i64.wrap ((a:Int)+(k:Int))).toNat ((cc:Int)-IntKind.i64.wrap ((a:Int)+(k:Int))).toNat] wq (RetB (.bool true) wq):=by
     obtain⟨S6,hRow⟩:=ownD_row hc
     rw [hwn,show ((all.length:Int)-((a+k:Nat):Int)).toNat=H'.k.pend.length from by rw [hpn,List.length_drop];omega,show ((cc:Int)-((a+k:Nat):Int)).toNat=cc-(a+k) from by omega]
     have h8:=RowD8.sub hRow (a+k) han
     rw [<-hpn] at h8
     have h9:=eqDeeds_any H'.k.pend H'.k.pend A3 _ c3 _ _ _ wq hrow3 h8
     rw [eqDs_refl] at h9
     exact h9
    refine hc.q' (heq) fun wQ hQ hc=>?_
    exact⟨(),⟨rfl,rfl,rfl,rfl,rfl,(show Value.int .i64 (IntKind.i64.wrap ((a:Int)+(k:Int)))=.int .i64 ((a+k:Nat):Int) by rw [hwn]),rfl,rfl,trivial⟩,_,hc.sepNow (R':=fun S w=>RepS S w H'.k.b (stX H'.k.b x)) (fun S h=>h.1.1) (fun _ h=>h) (stab_S _ _) (ShelfK.stab _ _ _ _ _)⟩
   refine⟨hc.a' 0 rfl rfl ?_,trivial⟩
   refine⟨⟨(Book_any gs gj gc b H' hf'.ok _ _ (hc.row.right (ShelfK.stab _ _ _ _ _))).mono fun en wq hq=>?_⟩,trivial⟩
   obtain⟨cB,e1,hq,hrB⟩:=hq
   obtain⟨xB,rfl⟩:=hrB.stX
   have hc:=hc.sepKnow (X:=fun S w=>RepS S w H'.k.b (stX H'.k.b xB)) (sR H'.k.b x) (ShelfK.stab _ _ _ _ _) hq hrB (stab_S _ _)
   refine⟨_,e1,trivial,?_⟩
   refine⟨?_,trivial⟩
   have heq:=reqS_any H'.k.b H'.k.b _ _ _ _ (hc.row.left ((sR H'.k.b x).and (stab_S _ _))).2 (hc.row.left ((sR H'.k.b x).and (stab_S _ _))).1.1
   rw [eqS_iff.2 rfl] at heq
   refine hc.q' (heq) fun wQ hQ hc=>?_
   refine⟨⟨by rw [hwn];omega,by rw [hwn];omega⟩,?_⟩
   refine⟨⟨(Pend_any gs gj gc b H' hf'.ok _ _ (hc.row.right (ShelfK.stab _ _ _ _ _))).mono fun en wq hq=>?_⟩,trivial⟩
   obtain⟨A3,c3,e4,hq,ho⟩:=hq
   have hrow3:=own_row hq ho no
   have hc:=(hc.quiet hq).1
   refine⟨_,e4,trivial,?_⟩
   refine⟨?_,trivial⟩
   have heq:Calls Tryz.prog 24 #[.slice A3 H'.k.pend.length c3,.slice (if (cc:Int)=IntKind.i64.wrap ((a:Int)+(k:Int)) then C else C.map (·.add ((IntKind.i64.wrap ((a:Int)+(k:Int))).toNat*8))) ((all.length:Int)-IntKind.i64.wrap ((a:Int)+(k:Int))).toNat ((cc:Int)-IntKind.i64.wrap ((a:Int)+(k:Int))).toNat] wq (RetB (.bool true) wq):=by
    obtain⟨S6,hRow⟩:=ownD_row hc
    rw [hwn,show ((all.length:Int)-((a+k:Nat):Int)).toNat=H'.k.pend.length from by rw [hpn,List.length_drop];omega,show ((cc:Int)-((a+k:Nat):Int)).toNat=cc-(a+k) from by omega]
    have h8:=RowD8.sub hRow (a+k) han
    rw [<-hpn] at h8
    have h9:=eqDeeds_any H'.k.pend H'.k.pend A3 _ c3 _ _ _ wq hrow3 h8
    rw [eqDs_refl] at h9
    exact h9
   refine hc.q' (heq) fun wQ hQ hc=>?_
   exact⟨(),⟨rfl,rfl,rfl,rfl,rfl,(show Value.int .i64 (IntKind.i64.wrap ((a:Int)+(k:Int)))=.int .i64 ((a+k:Nat):Int) by rw [hwn]),rfl,rfl,trivial⟩,_,hc.sepNow (R':=fun S w=>RepS S w H'.k.b (stX H'.k.b x)) (fun S h=>h.1.1) (fun _ h=>h) (stab_S _ _) (ShelfK.stab _ _ _ _ _)⟩
  clear hc
  rintro⟨⟩ u6 w6 ⟨S,hc⟩
  exact⟨(i+1,a+k,H',x),⟨rfl,rfl,rfl,rfl,rfl,rfl,congrArg _ (i_down (by omega)),trivial⟩,⟨by omega,by omega,hf',han,hpn,by rw [<-hbn,foldS_next _ hf.ok.k.may hf.ok.k.lows (fun d hd=>(hallk d (List.mem_of_mem_drop (List.mem_of_mem_take hd))).1) (by rw [hsq,List.length_take,List.length_drop];unfold maxN;omega),hsq,List.length_take,List.length_drop];omega,_,hc⟩,by show 20-(i+1)<20-i;omega⟩
 have hc:=CtxF.start w no (fun _ h=>h.elim) (R:=fun _ _=>True) trivial Stab.true
 refine hc.q (begun8_any _ (hw.below hc.below)) fun wQ hQ hc=>?_
 refine⟨(new_any 1048576 _).mono fun en wq hq=>?_⟩
 rw [newC_c0 (by decide)] at hq
 obtain⟨gc,b,e1,hq,hO⟩:=hq
 have hc:=hc.sepNew hq hO (ChestK.stab _ _ _)
 refine⟨_,e1,?_⟩
 obtain⟨S1,Sa,h1,h2,h3,hO⟩:=hc.row
 refine⟨(snew_any gc b 1048576 (by decide) Sa _ (fun x hx=>hc.ctx.lt x (h2 x hx).1) (hw.free hc.below h2) hO).mono fun en wq hq=>?_⟩
 obtain⟨gs,gj,e1,hT,Sn,hSn,hO⟩:=hq
 have hc:=hc.turnO (Stab.true) h1 h2 h3 hT hSn hO (ShelfK.stab _ _ _ _ _)
 refine⟨_,e1,?_⟩
 have hmA:=row_max hA
 have hmB:=row_max hB
 refine⟨Nat × Sh × Option Addr × Nat,fun (i,H,C,cc)=>[(0,.slice A ds.length ca),(1,.slice B st.length cb),(6,.pointer (some ⟨gs,0,none⟩)),(8,.slice C H.k.pend.length cc),(9,.int .i64 (i:Int))],
  fun (i,H,C,cc) w'=>i<=ds.length/\i<=20/\Fit H i/\H.k.b=Stt0/\H.k.pend.length<=i/\∃ S,CtxF no w S w' [] [orD C cc H.k.pend] (Sep w.heap.size (fun _ _=>True) (ShelfK gs gj gc b H)),fun (i,_) _=>20-i,(0,H0 1048576,none,0),⟨rfl,rfl,rfl,rfl,rfl,trivial⟩,⟨Nat.zero_le _,Nat.zero_le _,Fit.h0,rfl,Nat.zero_le _,_,hc.nil _ _⟩,?_⟩
 clear hc
 rintro⟨i,H,C,cc⟩ w1 u ⟨hi,hi15,hf,hb0,hpl,S,hc⟩
 by_cases hlt:i<ds.length/\i<20
 ·refine split_t (decide_eq_true (by omega)) ?_
  refine split_t (decide_eq_true (by omega)) ?_
  obtain⟨ad,rfl,hcell⟩:=RowD8.elem (hA.below hc.below) i hlt.1
  obtain⟨d,hd⟩:∃ d,d=ds[i]:=⟨_,rfl⟩
  have hdo:d.Ok:=by rw [hd];exact hdk _ (List.getElem_mem _)
  rw [<-hd] at hcell
  refine⟨⟨by omega,by omega⟩,?_⟩
  refine⟨dC d,rfl,by rw [Int.toNat_natCast];exact hcell,?_⟩
  refine hc.q (deed5_any d hdo _) fun wQ hQ hc=>?_
  refine hc.n fun g1 wg1 hg1 hc=>?_
  refine hc.s 0 rfl fun wS hS hc=>?_
  refine hc.a 0 rfl rfl ?_
  have hcd:=cutD_ok hdo
  have had:=fun Sa w hlt he hK=>sadd_any gs gj gc b H hf.ok (cutD d) hcd Sa w hlt he hK
  have hres:=hf.add (by omega) hcd
  obtain⟨q,hq0⟩:∃ q,q=addH H (cutD d):=⟨_,rfl⟩
  rw [<-hq0] at had hres
  obtain⟨S1,Sa,h1,h2,h3,hO⟩:=hc.row
  refine⟨(had Sa _ (fun x hx=>hc.ctx.lt x (h2 x hx).1) (hw.free hc.below h2) hO).mono fun en wq hq=>?_⟩
  obtain⟨e1,hT,Sn,hSn,hO⟩:=hq
  have hc:=hc.turnO (Stab.true) h1 h2 h3 hT hSn hO (ShelfK.stab _ _ _ _ _)
  refine⟨_,e1,?_⟩
  rcases hres with ⟨hmd,hcan,e⟩ | ⟨_,hcan,e⟩ | ⟨hmd,e⟩
  ·subst e
   refine hc.a 0 rfl rfl ?_
   refine hc.n fun gv wgv hgv hc=>?_
   have ek:(H.write (.add (cutD d)) true).k.pend=H.k.pend++[cutD d]:=by rw [write_add_k]
   refine app_ownF (m:=1) Tryz.underlying22 info_D rfl (by decide) hc (by rfl) (hc.cells 0 rfl) rfl (by omega) (by decide) rfl rfl ?_
   intro A3 cap3 w3 hc
   have hco:=(hc.drop.drop).castO (orD_snoc _ _ H.k.pend (cutD d))
   rw [<-ek] at hco
   refine⟨(i+1,H.write (.add (cutD d)) true,A3,cap3),⟨rfl,rfl,rfl,by rw [ek,List.length_append];rfl,congrArg _ (i_down (by omega)),trivial⟩,⟨by omega,by omega,hf.write (by omega) (r:=.add _) ⟨hmd,hcd⟩ hcan true,?_,?_,_,hco⟩,by show 20-(i+1)<20-i;omega⟩
   ·show (H.write _ true).k.b=Stt0
    rw [write_add_k]
    exact hb0
   ·show (H.write _ true).k.pend.length<=i+1
    rw [ek,List.length_append]
    show _+1<=i+1
    omega
  ·subst e
   exact⟨(i+1,H,C,cc),⟨rfl,rfl,rfl,rfl,congrArg _ (i_down (by omega)),trivial⟩,⟨by omega,by omega,hf.mono (by omega),hb0,by omega,_,hc.drop⟩,by show 20-(i+1)<20-i;omega⟩
  ·subst e
   exact⟨(i+1,H,C,cc),⟨rfl,rfl,rfl,rfl,congrArg _ (i_down (by omega)),trivial⟩,⟨by omega,by omega,hf.mono (by omega),hb0,by omega,_,hc.drop⟩,by show 20-(i+1)<20-i;omega⟩
 by_cases hl2:i<ds.length
 ·refine split_t (decide_eq_true (by omega)) ?_
  refine split_f (decide_eq_false (by omega)) ?_
  exact⟨(gs,H,C,cc),⟨rfl,rfl,rfl,rfl,trivial⟩,hf.mono (by omega),hb0,_,_,_,_,hc⟩
 ·refine split_f (decide_eq_false (by omega)) ?_
  exact⟨(gs,H,C,cc),⟨rfl,rfl,rfl,rfl,trivial⟩,hf.mono (by omega),hb0,_,_,_,_,hc⟩
set_option maxRecDepth 100000 in
theorem shelfOrder_ct {H:Type} (enc:TypeId × Value->H) (W:World) (hw:Env W) {base:Nat}
  (v0:Value) (d0:DataW H) (p0:List MemPlace) (h0:DataW.Trod enc Tryz.prog W 0 (fun _=>true) true 22 v0 d0 p0) (k0:Value.okWide Tryz.prog W .any base 22 v0)
  (v1:Value) (d1:DataW H) (p1:List MemPlace) (h1:DataW.Trod enc Tryz.prog W 0 (fun _=>true) true 62 v1 d1 p1) (k1:Value.okWide Tryz.prog W .any base 62 v1):
  Calls Tryz.prog 7 #[v0,v1] W (RetB (.bool true) W):=by
 obtain⟨A0,c0,a0,rfl,r0,o0⟩:=open_deeds h0 k0
 obtain⟨A1,c1,a1,rfl,r1,o1⟩:=open_i64s h1 k1
 exact order8_any a0 a1 A0 A1 c0 c1 o0 o1 W hw r0 r1
end Go.Proofs.YtokglimimnelaaaGreatDoor
