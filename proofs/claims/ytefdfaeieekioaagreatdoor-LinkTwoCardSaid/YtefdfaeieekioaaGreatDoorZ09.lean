import Derived.Test.YtefdfaeieekioaaGreatDoorZ08
set_option maxRecDepth 100000
set_option maxHeartbeats 40000000
set_option linter.unusedVariables false
set_option linter.unusedSimpArgs false
namespace Go.Proofs.YtefdfaeieekioaaGreatDoor
open Go.Vc Go.RowKit Go.Fl Go.ChangeShapes Go.WideShapes Go.ChangeAt
def c0 (room:Int):Chest:=⟨room,fun _=>none,0⟩
def bE:ByteArray:=⟨#[]⟩
theorem V6:E9 bE=11:=by kernel_rfl
theorem B5f (room:Int) (to:ByteArray) (h:A5D to=true):A3A (c0 room) B8v to=(c0 room,6):=by unfold A3A;rw [y6 h];rfl
theorem B06 (room:Int) (s:ByteArray) (h:(s.size:Int)<=room):A0n (c0 room) Z5 s=(chL (room-s.size) ⟨s,s.size,true⟩,0):=by
 have e0:(⟨#[]⟩:ByteArray)++s=s:=ByteArray.empty_append;have e1:O1 (c0 room) Z5 s=(chL (room-s.size) ⟨s,0,false⟩,0):=by unfold O1;rw [y6 B8w];show (if room<(s.size:Int) then _ else _)=_;rw [y7 (by omega)];show (Chest.mk (room-s.size) (A4U (fun _=>none) Z5 ⟨⟨#[]⟩++s,0,false⟩) 1,(0:Int))=_;rw [e0];rfl
 unfold A0n;rw [e1,y6 rfl,A5T]
theorem A8g (gc b:Nat) (room0:Int) (hr0:11<=room0/\room0<=1000000000) (Sx:Nat->Prop) (w:World) (hlt:∀ x,Sx x->x<w.heap.size) (he:EnvFree Sx w) (hK:ChestK gc b (c0 room0) Sx w):
  Calls Tryz.prog 69 #[.pointer (some ⟨gc,0,none⟩)] w (fun en w'=>∃ gj,RetOb Sx w (.tuple #[.pointer (some ⟨gj,0,none⟩),.int .i64 0]) (JourK gj gc b (B5e (room0-E9 bE) ⟨I0 bE,E9 bE,true⟩ bE [] 11)) en w'):=by
 have hsz:=W5 bE;have hS:Splits (I0 bE).data.toList (bE::[]) 11:=by
  have h:=Splits.leaves [bE] [] (fun x hx=>by rw [List.mem_singleton.1 hx];decide) (.inl rfl);rw [zw] at h;have e:(D6 [bE]).length=11:=by kernel_rfl
  have e1:D6 [bE]=(I0 bE).data.toList:=by show J2 bE++[]=(J2 bE).toArray.toList;simp
  rw [e,e1] at h;exact h
 obtain⟨room,hroom⟩:∃ room,room=room0-E9 bE:=⟨_,rfl⟩;obtain⟨r,hrr⟩:∃ r:Scroll,r=⟨I0 bE,E9 bE,true⟩:=⟨_,rfl⟩;obtain⟨x0,hx0⟩:∃ x0,x0=bE:=⟨_,rfl⟩;obtain⟨xs,hxs0⟩:∃ xs:List ByteArray,xs=[]:=⟨_,rfl⟩;obtain⟨n,hnn⟩:∃ n:Nat,n=11:=⟨_,rfl⟩;have hs:r.s.size<=1000000000:=by rw [hrr];show (I0 bE).size<=_;rw [V6] at hsz;omega
 have hr:0<=room/\room<=1000000000:=by rw [V6] at hroom;omega
 have hn:xs.length<=100000:=by rw [hxs0];decide
 have ers:r.s=I0 bE:=by rw [hrr]
 rw [<-ers,<-hx0,<-hxs0,<-hnn] at hS;rw [<-hroom,<-hrr,<-hx0,<-hxs0,<-hnn];have hc:=ChestK.start hlt hK;refine vE Tryz.func69 ?_;refine⟨.bool false,fun w=>B2w gc _ _ w,?_⟩;have hcl:=fun Sa w hK=>B2y gc b (c0 room0) B8v ⟨#[79,76,68]⟩ (by decide) (by decide) ⟨by show _<=room0;omega,by show room0<=_;omega⟩ (by show (0:Nat)<=_;omega) (by show 0<1000000;decide) Sa w hK;rw [B5f room0 _ (by kernel_rfl)] at hcl;obtain⟨S1,Sa,h1,h2,h3,hO⟩:=hc.row;refine⟨(hcl Sa _ hO).mono fun en wq hq=>?_⟩;obtain⟨e1,hT,Sn,hSn,hO⟩:=hq;have hc:=hc.turnO y8 h1 h2 h3 hT hSn hO y9;refine⟨_,e1,?_⟩;refine hc.n fun g4 wg4 hg4 hc=>?_;have hrd:=B2x gc b (c0 room0) Z5 (by decide) _ _ (hc.row.right y9);rw [show (c0 room0).f Z5=none from rfl] at hrd;refine hc.q (hrd) fun wQ hQ hc=>?_;refine hc.q (A3o bE (by decide) _ (he.sub0 hc)) fun wQ hQ hc=>?_;have hc:CtxF _ _ _ _ _ _ (Sep 0 (Sep 0 (Keep w Sx) (RecK 9 none 0 0 [])) (ChestK gc b (c0 room0))):=hc.now (fun h=>by obtain⟨S1,So,h1,h2,h3,h4⟩:=h;exact⟨S1,So,h1,h2,⟨S1,no,fun x hx=>⟨hx,id⟩,(fun x hx=>hx.elim),h3,RecK.nil _ _ _⟩,h4⟩) (Sep.stab (Sep.stab y8 ya) y9);have hwr:=fun Sx w hlt hK=>A8c g4 gc b ⟨c0 room0,bE,[],false⟩ Z5 (I0 bE) (by decide) ⟨by show _<=room0;omega,by show room0<=_;omega⟩ (by rw [V6] at hsz;omega) (by show (0:Nat)<=_;omega) (by show 0<999999;decide) Sx w hlt hK;have ew:A0n (c0 room0) Z5 (I0 bE)=(chL room r,0):=by rw [B06 room0 _ (by rw [hsz,V6];omega),hsz,hroom,hrr]
 rw [show (Jour.mk (c0 room0) bE [] false).C=c0 room0 from rfl,ew] at hwr;obtain⟨Sm,hm0,hkp,hm1,hag⟩:=hc.again;refine⟨(hwr Sm _ hm0 ⟨_,_,hm1⟩).mono fun en wq hq=>?_⟩;obtain⟨e1,hT,Sn,hSn,A2,cap2,hO⟩:=hq;obtain⟨S2,hc⟩:=hag hT hSn hO ya y9;refine⟨_,e1,?_⟩;have hc:CtxF _ _ _ _ _ _ (Sep 0 (Keep w Sx) (ChestK gc b (chL room r))):=hc.now (fun h=>by obtain⟨S1,So,h1,h2,⟨Sk,Sr,k1,k2,k3,k4⟩,h4⟩:=h;exact⟨Sk,So,fun x hx=>h1 x (k1 x hx).1,h2,k3,h4⟩) (Sep.stab y8 y9);obtain⟨A0,k0,S0,hc⟩:∃ A0 k0 S0,CtxF no (bare w) S0 wq [(g4,159,A3w gc ⟨#[]⟩ A0 0 k0 false)] [] (Sep 0 (Keep w Sx) (ChestK gc b (chL room r))):=⟨_,_,_,hc⟩;have hc:=hc.nil 9 1;have hlen:r.s.data.toList.length=r.s.size:=T3 r.s;refine⟨Nat × Nat × Option Addr × Nat,fun y=>[(0,.pointer (some ⟨gc,0,none⟩)),(4,.pointer (some ⟨g4,0,none⟩)),(5,.string r.s),(8,.int .i64 (y.2.1:Nat)),(9,.slice y.2.2.1 y.1 y.2.2.2)],
  fun y w'=>y.1<=(x0::xs).length/\y.2.1<=n/\n<=r.s.size/\Splits (r.s.data.toList.drop y.2.1) ((x0::xs).drop y.1) (n-y.2.1)/\∃ S,CtxF no (bare w) S w' [(g4,159,A3w gc ⟨#[]⟩ A0 0 k0 false)] [⟨9,1,y.2.2.1,y.1,y.2.2.2,((x0::xs).take y.1).map Value.string⟩] (Sep 0 (Keep w Sx) (ChestK gc b (chL room r))),fun y _=>(x0::xs).length-y.1,(0,0,none,0),⟨rfl,rfl,y5 Value.string (show I0 bE=r.s from ers.symm),rfl,rfl,trivial⟩,⟨zb _,zb _,Splits.le hS hlen,hS,_,hc⟩,?_⟩
 clear hc;rintro⟨i,a,A,cap⟩ w' u ⟨hi,ha,hnr,hsp,S,hc⟩;simp only at hi ha hsp hc;cases hd:(x0::xs).drop i with
 | nil=>
  rw [hd] at hsp;have hi2:i=(x0::xs).length:=by have:=y5 List.length hd;rw [zg] at this;simp only [List.length_nil] at this;omega
  have ha2:a=n:=by have:=hsp.1;omega
  subst ha2;have hipos:0<i:=by rw [hi2,zi];omega
  rcases zl a r.s.size with hlt | hge
  ·refine dt (by show (a:Int)<r.s.size;omega) ?_;refine⟨⟨by show (0:Int)<=(a:Int);omega,by show (a:Int)<=(r.s.size:Int);omega,Int.le_refl _⟩,?_⟩;have ht2:(A2A (r.s.data.toList.drop a)).2.2=2:=by
    rcases hsp.2 with h | h
    ·have:=y5 List.length h;rw [zg,hlen] at this;simp only [List.length_nil] at this;omega
    ·exact h
   have htu:=A7d (r.s.extract a r.s.size) (by rw [ByteArray.size_extract];omega) _ (he.sub0 hc);rw [A2H r.s a (by omega),show ((⟨(r.s.data.toList.drop a).toArray⟩:ByteArray)).data.toList=r.s.data.toList.drop a from rfl,ht2,<-A2H r.s a (by omega)] at htu;refine hc.q (htu) fun wQ hQ hc=>?_;refine C3X (by rw [y4];omega) ?_;have hA:∃ ad,A=some ad:=by
    cases A with
    | some ad=>exact⟨ad,rfl⟩
    | none=>
     have:i=0:=(hc.fst.none' rfl).1;omega
   obtain⟨ad,hA⟩:=hA;obtain⟨gr,cur,eA,hco,hcl,hct,hnc,hcm⟩:=hc.opened hA;clear hc;subst eA;have hc:=hco;have hcl:cur.length=cap*1:=hcl;have hct:cur.take (i*1)=((x0::xs).take i).map Value.string:=hct;have hnc:i<=cap:=hnc;have hcm:cap<=maxLen:=hcm;have hcur0:cur[0]?=some (.string x0):=by
    have e:(cur.take (i*1))[0]?=some (.string x0):=by rw [hct,hi2];rfl
    rw [List.getElem?_take] at e;split at e
    ·exact e
    ·cases e
   have hdrop:(cur.drop 1).take (i-1)=xs.map Value.string:=by
    have e:(cur.take (i*1)).drop 1=xs.map Value.string:=by rw [hct,hi2,List.take_length];rfl
    rw [List.drop_take] at e;rw [<-e,Nat.mul_one]
   rw [Nat.mul_one] at hcl;have hfin:∀ (J:Jour) (room':Int) (r':Scroll),J=JL room' r' x0 xs false->∀ (wF:World) (S:Nat->Prop) (A3:Option Addr) (n3 c3:Nat),A3=(if (cap:Int)=1 then some (⟨gr,0,none⟩:Addr) else (some (⟨gr,0,none⟩:Addr)).map (·.add ((1:Int).toNat*1)))->n3=i-1->c3=cap-1->CtxF no (bare w) S wF [(gr,9,cur),(g4,159,A3w gc x0 A3 n3 c3 false)] [] (Sep 0 (Keep w Sx) (ChestK gc b (chL room' r')))->∃ gj,RetOb Sx w (.tuple #[.pointer (some ⟨gj,0,none⟩),.int .i64 0]) (JourK gj gc b J) (.returned (.tuple #[.pointer (some ⟨g4,0,none⟩),.int .i64 0])) wF:=by
    intro J room' r' eJ wF S A3 n3 c3 e3 en3 ec3 hcz;subst eJ en3 ec3;refine⟨g4,?_⟩;by_cases h1:cap=1
    ·rw [y6 (by omega)] at e3;subst e3;have hxs:xs=[]:=by
      have:xs.length=0:=by simp only [zi] at hi2;omega
      exact zn this
     subst hxs;simp only [zi,List.length_nil] at hi2;exact JourK.leave2 (o:=0) (n:=i-1) (cap:=cap-1) hcz (by simp only [List.length_nil];omega) (by omega) (by omega) (by omega) (by rw [show i-1=0 from by omega];rfl) _
    ·rw [y7 (by omega)] at e3;have e4:A3=some ⟨gr,1,none⟩:=by rw [e3,Option.map_some,Addr.add_lit];rfl
     subst e4;exact JourK.leave2 (n:=i-1) (cap:=cap-1) hcz (by simp only [zi] at hi2;omega) (by omega) (by omega) (by omega) hdrop _
   by_cases hn2:(a:Int)<(r.s.size:Int)
   ·refine dt hn2 ?_;have hcu:=fun Sa w hK=>A7W gc b (chL room r) Z5 (a:Nat) (by decide) ⟨by show _<=room;omega,by show room<=_;omega⟩ (by rw [A06];show r.s.size<=_;omega) (by show 1<1000000;decide) Sa w hK;rw [B05 room r a hnr] at hcu;obtain⟨S1,Sa,h1,h2,h3,hO⟩:=hc.row;refine⟨(hcu Sa _ hO).mono fun en wq hq=>?_⟩;obtain⟨e1,hT,Sn,hSn,hO⟩:=hq;have hc:=hc.turnO y8 h1 h2 h3 hT hSn hO y9;refine⟨_,e1,?_⟩;refine vD (.Q [0,1,2,3,5,6] (.n 4 (.Q [7,8] (.n 9 (.Q [10,11] (.n 12 .fin .stop)) .stop)) .stop)) (fun _=>True) trivial ?_;have hc:=hc.drew;refine⟨⟨by omega,by omega⟩,?_⟩;refine⟨⟨by decide,by show (1:Int)<=(i:Int);omega,by show (i:Int)<=(cap:Int)/\(cap:Int)<=(cap:Int);omega⟩,?_⟩;refine⟨⟨_,hc.cell 0 rfl 0 hcur0,trivial,?_⟩,trivial⟩;refine⟨hc.s' 1 rfl fun wS hS hc=>?_,trivial⟩;refine⟨hc.s' 1 rfl fun wS hS hc=>?_,trivial⟩;exact hfin _ (room+((r.s.size:Int)-a)) ⟨r.s.extract 0 a,if (a:Int)<r.pressed then a else r.pressed,true⟩ (y6 hn2) _ _ _ _ _ rfl (by show ((i:Int)-1).toNat=i-1;omega) (by show ((cap:Int)-1).toNat=cap-1;omega) hc
   ·refine df hn2 ?_;refine vD (.Q [0,1,2,3,5,6] (.n 4 (.Q [7,8] (.n 9 (.Q [10,11] (.n 12 .fin .stop)) .stop)) .stop)) (fun _=>True) trivial ?_;have hc:=hc.drew;refine⟨⟨by omega,by omega⟩,?_⟩;refine⟨⟨by decide,by show (1:Int)<=(i:Int);omega,by show (i:Int)<=(cap:Int)/\(cap:Int)<=(cap:Int);omega⟩,?_⟩;refine⟨⟨_,hc.cell 0 rfl 0 hcur0,trivial,?_⟩,trivial⟩;refine⟨hc.s' 1 rfl fun wS hS hc=>?_,trivial⟩;refine⟨hc.s' 1 rfl fun wS hS hc=>?_,trivial⟩;exact hfin _ room r (y7 hn2) _ _ _ _ _ rfl (by show ((i:Int)-1).toNat=i-1;omega) (by show ((cap:Int)-1).toNat=cap-1;omega) hc
  ·refine df (by show ¬ (a:Int)<r.s.size;omega) ?_;refine C3X (by rw [y4];omega) ?_;have hA:∃ ad,A=some ad:=by
    cases A with
    | some ad=>exact⟨ad,rfl⟩
    | none=>
     have:i=0:=(hc.fst.none' rfl).1;omega
   obtain⟨ad,hA⟩:=hA;obtain⟨gr,cur,eA,hco,hcl,hct,hnc,hcm⟩:=hc.opened hA;clear hc;subst eA;have hc:=hco;have hcl:cur.length=cap*1:=hcl;have hct:cur.take (i*1)=((x0::xs).take i).map Value.string:=hct;have hnc:i<=cap:=hnc;have hcm:cap<=maxLen:=hcm;have hcur0:cur[0]?=some (.string x0):=by
    have e:(cur.take (i*1))[0]?=some (.string x0):=by rw [hct,hi2];rfl
    rw [List.getElem?_take] at e;split at e
    ·exact e
    ·cases e
   have hdrop:(cur.drop 1).take (i-1)=xs.map Value.string:=by
    have e:(cur.take (i*1)).drop 1=xs.map Value.string:=by rw [hct,hi2,List.take_length];rfl
    rw [List.drop_take] at e;rw [<-e,Nat.mul_one]
   rw [Nat.mul_one] at hcl;have hfin:∀ (J:Jour) (room':Int) (r':Scroll),J=JL room' r' x0 xs false->∀ (wF:World) (S:Nat->Prop) (A3:Option Addr) (n3 c3:Nat),A3=(if (cap:Int)=1 then some (⟨gr,0,none⟩:Addr) else (some (⟨gr,0,none⟩:Addr)).map (·.add ((1:Int).toNat*1)))->n3=i-1->c3=cap-1->CtxF no (bare w) S wF [(gr,9,cur),(g4,159,A3w gc x0 A3 n3 c3 false)] [] (Sep 0 (Keep w Sx) (ChestK gc b (chL room' r')))->∃ gj,RetOb Sx w (.tuple #[.pointer (some ⟨gj,0,none⟩),.int .i64 0]) (JourK gj gc b J) (.returned (.tuple #[.pointer (some ⟨g4,0,none⟩),.int .i64 0])) wF:=by
    intro J room' r' eJ wF S A3 n3 c3 e3 en3 ec3 hcz;subst eJ en3 ec3;refine⟨g4,?_⟩;by_cases h1:cap=1
    ·rw [y6 (by omega)] at e3;subst e3;have hxs:xs=[]:=by
      have:xs.length=0:=by simp only [zi] at hi2;omega
      exact zn this
     subst hxs;simp only [zi,List.length_nil] at hi2;exact JourK.leave2 (o:=0) (n:=i-1) (cap:=cap-1) hcz (by simp only [List.length_nil];omega) (by omega) (by omega) (by omega) (by rw [show i-1=0 from by omega];rfl) _
    ·rw [y7 (by omega)] at e3;have e4:A3=some ⟨gr,1,none⟩:=by rw [e3,Option.map_some,Addr.add_lit];rfl
     subst e4;exact JourK.leave2 (n:=i-1) (cap:=cap-1) hcz (by simp only [zi] at hi2;omega) (by omega) (by omega) (by omega) hdrop _
   by_cases hn2:(a:Int)<(r.s.size:Int)
   ·refine dt hn2 ?_;have hcu:=fun Sa w hK=>A7W gc b (chL room r) Z5 (a:Nat) (by decide) ⟨by show _<=room;omega,by show room<=_;omega⟩ (by rw [A06];show r.s.size<=_;omega) (by show 1<1000000;decide) Sa w hK;rw [B05 room r a hnr] at hcu;obtain⟨S1,Sa,h1,h2,h3,hO⟩:=hc.row;refine⟨(hcu Sa _ hO).mono fun en wq hq=>?_⟩;obtain⟨e1,hT,Sn,hSn,hO⟩:=hq;have hc:=hc.turnO y8 h1 h2 h3 hT hSn hO y9;refine⟨_,e1,?_⟩;refine vD (.Q [0,1,2,3,5,6] (.n 4 (.Q [7,8] (.n 9 (.Q [10,11] (.n 12 .fin .stop)) .stop)) .stop)) (fun _=>True) trivial ?_;have hc:=hc.drew;refine⟨⟨by omega,by omega⟩,?_⟩;refine⟨⟨by decide,by show (1:Int)<=(i:Int);omega,by show (i:Int)<=(cap:Int)/\(cap:Int)<=(cap:Int);omega⟩,?_⟩;refine⟨⟨_,hc.cell 0 rfl 0 hcur0,trivial,?_⟩,trivial⟩;refine⟨hc.s' 1 rfl fun wS hS hc=>?_,trivial⟩;refine⟨hc.s' 1 rfl fun wS hS hc=>?_,trivial⟩;exact hfin _ (room+((r.s.size:Int)-a)) ⟨r.s.extract 0 a,if (a:Int)<r.pressed then a else r.pressed,true⟩ (y6 hn2) _ _ _ _ _ rfl (by show ((i:Int)-1).toNat=i-1;omega) (by show ((cap:Int)-1).toNat=cap-1;omega) hc
   ·refine df hn2 ?_;refine vD (.Q [0,1,2,3,5,6] (.n 4 (.Q [7,8] (.n 9 (.Q [10,11] (.n 12 .fin .stop)) .stop)) .stop)) (fun _=>True) trivial ?_;have hc:=hc.drew;refine⟨⟨by omega,by omega⟩,?_⟩;refine⟨⟨by decide,by show (1:Int)<=(i:Int);omega,by show (i:Int)<=(cap:Int)/\(cap:Int)<=(cap:Int);omega⟩,?_⟩;refine⟨⟨_,hc.cell 0 rfl 0 hcur0,trivial,?_⟩,trivial⟩;refine⟨hc.s' 1 rfl fun wS hS hc=>?_,trivial⟩;refine⟨hc.s' 1 rfl fun wS hS hc=>?_,trivial⟩;exact hfin _ room r (y7 hn2) _ _ _ _ _ rfl (by show ((i:Int)-1).toNat=i-1;omega) (by show ((cap:Int)-1).toNat=cap-1;omega) hc
 | cons y ys=>
  rw [hd] at hsp;obtain⟨k,a2,ht,hk0,hkl,hna,hsp2⟩:=hsp;rw [zg,hlen] at hkl;have hil:i<(x0::xs).length:=by
   rcases zl i (x0::xs).length with h | h
   ·exact h
   ·rw [zq h] at hd;cases hd
  refine dt (by show (a:Int)<r.s.size;omega) ?_;refine⟨⟨by show (0:Int)<=(a:Int);omega,by show (a:Int)<=(r.s.size:Int);omega,Int.le_refl _⟩,?_⟩;have htu:=A7d (r.s.extract a r.s.size) (by rw [ByteArray.size_extract];omega) _ (he.sub0 hc);rw [A2H r.s a (by omega),show ((⟨(r.s.data.toList.drop a).toArray⟩:ByteArray)).data.toList=r.s.data.toList.drop a from rfl,ht,<-A2H r.s a (by omega)] at htu;refine hc.q (htu) fun wQ hQ hc=>?_;refine hc.n fun gv wgv hgv hc=>?_;refine K4 (m:=1) Tryz.underlying114 B0n rfl (by decide) hc (by rfl) (hc.cells 0 rfl) rfl (by show i+1<=_;simp only [zi] at hil;omega) (by decide) rfl rfl ?_;intro A3 cap3 w3 hc;have hw3:IntKind.i64.wrap ((a:Int)+(k:Int))=((a+k:Nat):Int):=by rw [IntWalk.i64_in _ ⟨by omega,by omega⟩];omega
  refine⟨(i+1,a+k,A3,cap3),⟨rfl,rfl,rfl,y5 _ hw3,rfl,trivial⟩,⟨hil,by show a+k<=n;omega,hnr,?_,S,?_⟩,by show (x0::xs).length-(i+1)<(x0::xs).length-i;omega⟩
  ·show Splits (r.s.data.toList.drop (a+k)) ((x0::xs).drop (i+1)) (n-(a+k));have e1:(x0::xs).drop (i+1)=ys:=by rw [<-List.drop_drop,hd];rfl
   rw [e1,<-List.drop_drop,show n-(a+k)=a2 from by omega];exact hsp2
  ·show CtxF no (bare w) S w3 _ [⟨9,1,A3,i+1,cap3,((x0::xs).take (i+1)).map Value.string⟩] _;have e1:(x0::xs).take (i+1)=(x0::xs).take i++[y]:=by have e2:=List.take_add (l:=x0::xs) (i:=i) (j:=1);rw [e2,hd];rfl
   rw [e1,List.map_append];exact hc.drop
def Sh.jour (H:Sh):Jour:=JL H.room H.scr H.first (H.l.map Q3) H.down
def shC (gj:Nat) (k:Known) (x:SX) (A:Option Addr) (cap:Nat) (dn:Bool):List Value:=B8L (.pointer (some ⟨gj,0,none⟩)) dn (knC k x A cap)
def ShelfK (gs gj gc b:Nat) (H:Sh):Kn:=fun S w=>∃ x A cap,ObjK gs 92 (shC gj H.k x A cap H.down) (KnR H.k x A cap) (JourK gj gc b H.jour) S w
theorem ShelfK.stab (gs gj gc b:Nat) (H:Sh):Stab (ShelfK gs gj gc b H):=fun S w S' w' h f=>by obtain⟨x,A,cap,h⟩:=h;exact⟨x,A,cap,ObjK.stab yc yd _ _ _ _ h f⟩
theorem ye {gs gj gc b:Nat} {H:Sh}:Stab (ShelfK gs gj gc b H):=ShelfK.stab _ _ _ _ _
theorem A3E:∀ (l:List ByteArray),(∀ x∈l,x.size<=400000)->10*l.length<=(D6 l).length
 | [],_=>zb _
 | s::r,h=>by have h1:=A3q s (h s (zu ..));have h2:=A3E r fun x hx=>h x (zt _ hx);rw [D6,z6,zi];omega
theorem Sh.Ok.len {H:Sh} (h:H.Ok):H.l.length<=110000:=by
 have h1:=A3E H.texts h.sizes;have h2:=h.size;have e:H.texts.length=H.l.length+1:=by show (H.first::H.l.map Q3).length=_;rw [zi,zj]
 unfold Sh.txt at h2;omega
theorem _root_.Go.Vc.CtxF.midNow {w0 w:World} {S:Nat->Prop} {l:List LB} {os:List OR} {n0 n1:Nat} {K R R' O:Kn} (hc:CtxF no w0 S w l os (Sep n1 (Sep n0 K R) O)) (h:∀ S w,R S w->R' S w) (hK:Stab K) (hR:Stab R') (hO:Stab O):CtxF no w0 S w l os (Sep n1 (Sep n0 K R') O):=
 hc.now (fun hh=>hh.mono (fun _ h2=>h2.mono (fun _ h3=>h3) (fun _ h3=>h _ _ h3)) (fun _ h3=>h3)) (Sep.stab (Sep.stab hK hR) hO)
end Go.Proofs.YtefdfaeieekioaaGreatDoor
section
namespace Go.Vc
open Go Go.RowKit
open Go.Proofs.YtefdfaeieekioaaGreatDoor (no RetOb Env ShelfK)
def RowF (w:World) (A:Option Addr) (n cap:Nat) (xs:List Value):Kn:=In (fun x=>w.heap.size<=x) (fun S w'=>Row S w' A n cap xs)
theorem RowF.stab (w:World) (A:Option Addr) (n cap:Nat) (xs:List Value):Stab (RowF w A n cap xs):=In.stab fun _ _ _ _ h f=>h.fut f
section
variable {w0 w w' w1:World} {S Sa:Nat->Prop} {l:List LB} {os:List OR} {R O K X Y:Kn} {g T n0 n1:Nat} {cs cs':List Value}
theorem CtxF.againK (hc:CtxF no (bare w) S w1 [(g,T,cs)] [] (Sep 0 (Sep 0 K R) O)) (hK:∀ S w',K S w'->Keep w Sa S w') (sK:Stab K):
  ∃ Sm:Nat->Prop,(∀ x,Sm x->x<w1.heap.size)/\(∀ x,x<w.heap.size->¬ Sa x->¬ Sm x/\w1.heap[x]?=w.heap[x]?)/\ObjK g T cs R O Sm w1/\(∀ x,Sm x->x=g\/S x)/\∀ {w2:World} {cs':List Value} {R' O':Kn} {Sn:Nat->Prop},Turn Sm w1 w2->(∀ x,Sn x->(Sm x\/w1.heap.size<=x)/\x<w2.heap.size)->ObjK g T cs' R' O' Sn w2->Stab R'->Stab O'->
   ∃ S2,CtxF no (bare w) S2 w2 [(g,T,cs')] [] (Sep 0 (Sep 0 K R') O'):=by
 obtain⟨S1,So,h1,h2,⟨Sk,Sr,k1,k2,k3,k4⟩,h4⟩:=hc.row;have hSg:¬ S g:=hc.ctx.locs.2.1;have hr:∀ x,Sr x->S x:=fun x hx=>(h1 x (k2 x hx).1).1;have hk:∀ x,Sk x->S x/\¬ Sr x/\¬ So x/\x≠g:=fun x hx=>⟨(h1 x (k1 x hx).1).1,(k1 x hx).2,(h1 x (k1 x hx).1).2,fun e=>hSg (e▸(h1 x (k1 x hx).1).1)⟩;refine⟨fun x=>x=g\/Sr x\/So x,fun x hx=>?_,fun x hx hn=>?_,⟨.inl rfl,hc.blk 0 rfl,Sr,So,fun x hx=>⟨⟨.inr (.inl hx),fun e=>hSg (e▸hr x hx)⟩,(h1 x (k2 x hx).1).2⟩,fun x hx=>⟨⟨.inr (.inr hx),fun e=>hSg (e▸(h2 x hx).1)⟩,zb _⟩,k4,h4⟩,fun x hx=>hx.elim .inl (fun hx=>.inr (hx.elim (hr x) (fun h=>(h2 x h).1))),?_⟩
 ·rcases hx with rfl | hx | hx
  ·exact (hc.blk 0 rfl).lt
  ·exact hc.ctx.lt x (hr x hx)
  ·exact hc.ctx.lt x (h2 x hx).1
 ·obtain⟨i1,i2⟩:=hK _ _ k3 x hx hn;obtain⟨a,b,c,d⟩:=hk x i1;exact⟨fun e=>e.elim d (fun e=>e.elim b c),i2⟩
 ·intro w2 cs' R' O' Sn hT hSn hO sR sO;obtain⟨j1,j2,Sr',So',i1,i2,i3,i4⟩:=hO;have hnk:∀ x,Sk x->¬ Sn x:=fun x hx hn=>by
   obtain⟨a,b,c,d⟩:=hk x hx;have hl:=hc.ctx.lt x a;rcases (hSn x hn).1 with (e | e | e) | e
   ·exact d e
   ·exact b e
   ·exact c e
   ·omega
  have hkeep:∀ x,Sk x->w2.heap[x]?=w1.heap[x]?:=fun x hx=>by obtain⟨a,b,c,d⟩:=hk x hx;exact hT.block x (hc.ctx.lt x a) (fun e=>e.elim d (fun e=>e.elim b c))
  have hklt:∀ x,Sk x->x<w2.heap.size:=fun x hx=>heap_lt (hkeep x hx) (hc.ctx.lt x (hk x hx).1);refine⟨fun x=>x<w2.heap.size/\x≠g,⟨⟨⟨hT.os.trans hc.below.os,hT.tape.trans hc.below.tape,hT.output.trans hc.below.output,zb _,fun k hk=>absurd hk (Nat.not_lt_zero _)⟩,fun _ h=>h.elim,fun b _=>.inr (zb _),fun x hx=>hx.1,⟨zb _,fun h=>h.2 rfl,j2,(fun x hx=>by cases hx),trivial⟩⟩,trivial,?_,Sep.stab (Sep.stab sK sR) sO⟩⟩;refine⟨fun x=>x<w2.heap.size/\¬ So' x/\x≠g,So',fun x hx=>⟨⟨hx.1,hx.2.2⟩,hx.2.1⟩,fun x hx=>⟨⟨(hSn x (i2 x hx).1.1).2,(i2 x hx).1.2⟩,zb _⟩,⟨Sk,Sr',fun x hx=>⟨⟨hklt x hx,fun e=>hnk x hx (i2 x e).1.1,(hk x hx).2.2.2⟩,fun e=>hnk x hx (i1 x e).1.1⟩,fun x hx=>⟨⟨(hSn x (i1 x hx).1.1).2,(i1 x hx).2,(i1 x hx).1.2⟩,zb _⟩,sK _ _ _ _ k3 ⟨fun _ h=>h,hkeep⟩,i3⟩,i4⟩
theorem ObjK.leaveK (hc:CtxF no (bare w) S w' [(g,T,cs')] [] (Sep 0 (Sep 0 K R) O)) (hK:∀ S w',K S w'->Keep w Sa S w'):
  Turn Sa w w'/\∃ Sn Sk:Nat->Prop,(∀ x,Sn x->(Sa x\/w.heap.size<=x)/\x<w'.heap.size)/\ObjK g T cs' R O Sn w'/\K Sk w'/\(∀ x,Sk x->x<w'.heap.size/\¬ Sn x):=by
 obtain⟨S1,So,h1,h2,⟨Sk,Sr,k1,k2,k3,k4⟩,h4⟩:=hc.row;have hSg:¬ S g:=hc.ctx.locs.2.1;have hr:∀ x,Sr x->S x:=fun x hx=>(h1 x (k2 x hx).1).1;have hkk:=hK _ _ k3;refine⟨hc.leave hkk,fun x=>x=g\/Sr x\/So x,Sk,fun x hx=>?_,⟨.inl rfl,hc.blk 0 rfl,Sr,So,fun x hx=>⟨⟨.inr (.inl hx),fun e=>hSg (e▸hr x hx)⟩,(h1 x (k2 x hx).1).2⟩,fun x hx=>⟨⟨.inr (.inr hx),fun e=>hSg (e▸(h2 x hx).1)⟩,zb _⟩,k4,h4⟩,k3,fun x hx=>⟨hc.ctx.lt x (h1 x (k1 x hx).1).1,fun e=>?_⟩⟩
 ·have hout:(Sk x->False)->Sa x\/w.heap.size<=x:=fun hn=>by
   rcases zl x w.heap.size with hl | hl
   ·rcases Classical.em (Sa x) with hs | hs
    ·exact .inl hs
    ·exact (hn (hkk x hl hs).1).elim
   ·exact .inr hl
  rcases hx with rfl | hx | hx
  ·exact⟨hout fun hk=>hSg (h1 _ (k1 _ hk).1).1,(hc.blk 0 rfl).lt⟩
  ·exact⟨hout fun hk=>(k1 x hk).2 hx,hc.ctx.lt x (hr x hx)⟩
  ·exact⟨hout fun hk=>(h1 x (k1 x hk).1).2 hx,hc.ctx.lt x (h2 x hx).1⟩
 ·rcases e with rfl | e | e
  ·exact hSg (h1 _ (k1 _ hx).1).1
  ·exact (k1 x hx).2 e
  ·exact (h1 x (k1 x hx).1).2 e
theorem CtxF.toldK {o:OR} (hc:CtxF no (bare w) S w1 l (o::os) (Sep n1 (Sep n0 K R) O)) (hK:∀ S w',K S w'->Keep w Sa S w') (hSa:∀ a,o.A=some a->¬ Sa a.block) (sK:Stab K) (sR:Stab R) (sO:Stab O):
  ∃ S2,CtxF no (bare w) S2 w1 l os (Sep n1 (Sep n0 (fun S w1=>K S w1/\RowF w o.A o.n o.cap o.xs S w1) R) O):=by
 have hout:=hc.fst.out;obtain⟨S1,So,h1,h2,⟨Sk,Sr,k1,k2,k3,k4⟩,h4⟩:=hc.row;have hnew:∀ a,o.A=some a->w.heap.size<=a.block:=fun a ha=>by
  rcases zl a.block w.heap.size with h | h
  ·exact absurd (h1 _ (k1 _ (hK _ _ k3 a.block h (hSa a ha)).1).1).1 (hout a ha).1
  ·exact h
 obtain⟨S2,hs,hc2⟩:=hc.told;refine⟨S2,hc2.now (fun hh=>?_) (Sep.stab (Sep.stab (sK.and (RowF.stab _ _ _ _ _)) sR) sO)⟩;obtain⟨_,hR1,hR2,hR3⟩:=hh;have hnS:∀ x,(∃ a,o.A=some a/\a.block=x)->¬ S x:=fun x hx h=>by obtain⟨a,ha,rfl⟩:=hx;exact (hout a ha).1 h
 refine⟨fun x=>S1 x\/(S2 x/\∃ a,o.A=some a/\a.block=x),So,fun x hx=>?_,fun x hx=>⟨hs x (h2 x hx).1,(h2 x hx).2⟩,⟨fun x=>Sk x\/(S2 x/\∃ a,o.A=some a/\a.block=x),Sr,fun x hx=>?_,fun x hx=>⟨.inl (k2 x hx).1,(k2 x hx).2⟩,⟨sK _ _ _ _ k3 ⟨fun x hx=>.inl hx,fun _ _=>rfl⟩,fun x=>S2 x/\∃ a,o.A=some a/\a.block=x,fun x hx=>⟨.inr hx,?_⟩,hR1,hR2,fun hx=>?_⟩,k4⟩,h4⟩
 ·rcases hx with hx | hx
  ·exact⟨hs x (h1 x hx).1,(h1 x hx).2⟩
  ·exact⟨hx.1,fun h=>hnS x hx.2 (h2 x h).1⟩
 ·rcases hx with hx | hx
  ·exact⟨.inl (k1 x hx).1,(k1 x hx).2⟩
  ·exact⟨.inr hx,fun h=>hnS x hx.2 (h1 x (k2 x h).1).1⟩
 ·obtain⟨a,ha,e⟩:=hx.2;rw [<-e];exact hnew a ha
 ·obtain⟨ad,e,hsa,hcl⟩:=hR3 hx;exact⟨ad,e,⟨hsa,ad,e,rfl⟩,hcl⟩
end
end Go.Vc
end
namespace Go.Proofs.YtefdfaeieekioaaGreatDoor
open Go.Vc Go.RowKit Go.Fl Go.ChangeShapes Go.WideShapes Go.ChangeAt
theorem A7e (H:Sh):(H.scr.s.size:Int)=H.txt.length:=by show (H.txt.toArray.size:Int)=_;rw [List.size_toArray]
theorem B67 {H:Sh} (h:H.Ok) (hd:H.down=false) {r:Rc} (hr:r.Ok) (press:Bool):
  B6T H.room H.scr H.first (H.l.map Q3) false (Q3 r) press=if H.room<E9 (Q3 r) then (H.fell.jour,5) else ((H.write r press).jour,0):=by
 have hs:=A0N hr;unfold B6T;rw [y7 (by decide),y7 (by omega)];by_cases h1:H.room<E9 (Q3 r)
 ·rw [y6 h1,y6 h1];rfl
 rw [y7 h1,y7 h1];have e1:(H.write r press).l.map Q3=H.l.map Q3++[Q3 r]:=by show (H.l++[r]).map Q3=_;rw [List.map_append];rfl
 have es:(H.write r press).scr.s=H.scr.s++I0 (Q3 r):=by show (⟨(H.write r press).txt.toArray⟩:ByteArray)=⟨H.txt.toArray⟩++⟨(J2 (Q3 r)).toArray⟩;rw [Sh.write_txt,U6]
 have ep:=Sh.write_pressed h r press;have er:=Sh.write_room H r press;have esz:((H.scr.s++I0 (Q3 r)).size:Int)=((H.txt++J2 (Q3 r)).length:Int):=by rw [<-es,A7e,Sh.write_txt]
 have ed:(H.write r press).down=false:=hd;have ek:(H.write r press).scr.kept=(H.kept||press):=rfl;have goal:∀ p:Bool,p=press->(H.write r press).jour=JL (H.room-E9 (Q3 r)) ⟨H.scr.s++I0 (Q3 r),(H.write r press).scr.pressed,H.kept||p⟩ H.first (H.l.map Q3++[Q3 r]) false:=fun p hp=>by subst hp;unfold Sh.jour;rw [e1,er,ed,<-es];rfl
 cases press with
 | true=>
  rw [y6 rfl,goal true rfl,ep,y6 rfl,esz,Bool.or_true]
 | false=>
  rw [y7 (by decide),goal false rfl,ep,y7 (by decide),Bool.or_false];rfl
theorem A8h (g:Nat) (ox oy:Operand) (w:World):(do eqGuard BinOp.eql 50 ox oy (.pointer (some ⟨g,0,none⟩)) (.pointer none);Go.binOp BinOp.eql 50 (.pointer (some ⟨g,0,none⟩)) (.pointer none):Sem Value).run Tryz.prog w=.ok (.bool false) w:=by kernel_rfl
theorem A1Q (gs gj:Nat) (k:Known) (x:SX) (A:Option Addr) (cap:Nat) (dn:Bool) (w:World) (hB:Blk w gs 92 (shC gj k x A cap dn)):Calls Tryz.prog 55 #[.pointer (some ⟨gs,0,none⟩)] w (C8 (.bool dn) w):=by refine vE Tryz.func55 ?_;refine⟨.bool false,fun w=>A8h gs _ _ w,?_⟩;refine⟨_,(hB.cell 12).trans rfl,?_⟩;exact⟨rfl,Below.refl _ _⟩
theorem B3E (gs gj gc b:Nat) (H:Sh) (S:Nat->Prop) (w:World) (hK:ShelfK gs gj gc b H S w):Calls Tryz.prog 55 #[.pointer (some ⟨gs,0,none⟩)] w (C8 (.bool H.down) w):=by obtain⟨x,A,cap,hO⟩:=hK;exact A1Q gs gj _ _ _ _ _ w hO.2.1
theorem A0o (gs gj gc b:Nat) (H:Sh) (h:H.Ok) (S:Nat->Prop) (w:World) (hK:ShelfK gs gj gc b H S w):Calls Tryz.prog 22 #[.pointer (some ⟨gs,0,none⟩)] w (C8 (.int .i64 H.k.seq) w):=by
 obtain⟨x,A,cap,hO⟩:=hK;have hcl:Go.Vc.cellsAt w ⟨gs,1,none⟩ (knC H.k x A cap) 0:=B5 hO.2.1 1 _ 0 (fun j v hj=>by
  have e:(shC (gj) H.k x A cap H.down)[1+0+j]?=(knC H.k x A cap++[.bool H.down])[j]?:=by rw [show 1+0+j=j+1 from by omega];rfl
  rw [e,List.getElem?_append_left]
  ·exact hj
  ·rcases zl j (knC H.k x A cap).length with h | h
   ·exact h
   ·rw [List.getElem?_eq_none h] at hj;cases hj)
 refine vE Tryz.func22 ?_;refine⟨.bool false,fun w=>A8h gs _ _ w,?_⟩;refine⟨knC H.k x A cap,rfl,hcl,?_⟩;refine B4 (A3v H.k h.k x A cap w) ?_;intro w1 h1;exact⟨rfl,h1⟩
theorem A2I (gs gj gc b:Nat) (H:Sh) (S:Nat->Prop) (w:World) (hK:ShelfK gs gj gc b H S w):Calls Tryz.prog 68 #[.pointer (some ⟨gs,0,none⟩)] w (C8 (.int .i64 H.k.ep) w):=by obtain⟨x,A,cap,hO⟩:=hK;refine vE Tryz.func68 ?_;refine⟨.bool false,fun w=>A8h gs _ _ w,?_⟩;refine⟨_,(hO.2.1.cell 10).trans rfl,?_⟩;exact⟨rfl,Below.refl _ _⟩
theorem A8i (gs gj gc b:Nat) (H:Sh) (S:Nat->Prop) (w:World) (hK:ShelfK gs gj gc b H S w):Calls Tryz.prog 111 #[.pointer (some ⟨gs,0,none⟩)] w (C8 (.int .i64 H.k.ln) w):=by obtain⟨x,A,cap,hO⟩:=hK;refine vE Tryz.func111 ?_;refine⟨.bool false,fun w=>A8h gs _ _ w,?_⟩;refine⟨_,(hO.2.1.cell 11).trans rfl,?_⟩;exact⟨rfl,Below.refl _ _⟩
theorem A1R (gs gj gc b:Nat) (H:Sh) (h:H.Ok) (S:Nat->Prop) (w:World) (hK:ShelfK gs gj gc b H S w):Calls Tryz.prog 26 #[.pointer (some ⟨gs,0,none⟩)] w (B2g 45 8 H.k.pend.length (H.k.pend.map dC).flatten w):=by obtain⟨x,A,cap,hO⟩:=hK;have hR:=(hO.left yc).2;have hl:=h.k.len;refine vE Tryz.func26 ?_;refine⟨.bool false,fun w=>A8h gs _ _ w,?_⟩;refine⟨_,(hO.2.1.cell 9).trans rfl,?_⟩;refine⟨(W3 A H.k.pend.length cap _ (V4 _) (zj _) (by omega) S w hR).mono fun en wq hq=>?_⟩;obtain⟨A2,cap2,e1,hb,ho⟩:=hq;exact⟨_,e1,A2,cap2,rfl,hb,ho⟩
theorem E7 (gs gj:Nat) (k:Known) (x:SX) (A:Option Addr) (cap:Nat) (e:Int) (w:World) (hB:Blk w gs 92 (shC gj k x A cap false)):
  Calls Tryz.prog 115 #[.pointer (some ⟨gs,0,none⟩),.int .i64 e] w (fun en w'=>en=.returned (.int .i64 (if e=0 then 0 else 7))/\Turn (fun x=>x=gs) w w'/\Blk w' gs 92 (shC gj k x A cap (e != 0))):=by
 have hc:=CtxF.enterL hB (S:=no) (fun _ h=>h.elim) (R:=fun _ _=>True) trivial Stab.true;refine vE Tryz.func115 ?_;by_cases h0:e=0
 ·subst h0;obtain⟨h1,h2,_⟩:=hc.leaveL Stab.true;exact⟨rfl,h1,h2⟩
 ·refine C3X (by rw [y4];exact h0) ?_;refine hc.s 0 rfl fun wS hS hc=>?_;obtain⟨h1,h2,_⟩:=hc.leaveL Stab.true;refine⟨?_,h1,?_⟩
  ·rw [y7 h0];rfl
  ·rw [show (e != 0)=true from by simpa using h0];exact h2
theorem rowOf {w:World} {g T:Nat} {cs:List Value} {S:Nat->Prop} (h:Blk w g T cs) (hS:S g) (n:Nat) (hn:n<=1000):Row S w (some ⟨g,0,none⟩) n n cs:=
 ⟨zc _,zo hn (by decide),fun _=>⟨_,rfl,hS,fun j u hu=>by rw [Addr.add_lit,zm,h.cell];exact hu⟩⟩
theorem RetOb.sh {gs gj gc b:Nat} {H:Sh} {k:Known} {x:SX} {A:Option Addr} {cap:Nat} {dn:Bool} {J:Jour} {Sx S:Nat->Prop} {w w':World} {cs:List Value}
  (hc:CtxF no (bare w) S w' [(gs,92,cs)] [] (Sep 0 (Sep 0 (Keep w Sx) (KnR k x A cap)) (JourK gj gc b J))) (ec:cs=shC gj k x A cap dn) (ek:H.k=k) (ed:H.down=dn) (ej:H.jour=J) (v:Value):RetOb Sx w v (ShelfK gs gj gc b H) (.returned v) w':=by
 subst ek ed ej ec;obtain⟨h1,h2,Sn,h3,h4⟩:=ObjK.leave hc v;exact⟨h1,h2,Sn,h3,x,A,cap,h4⟩
def A9M (H:Sh) (r:Rc):Int:=if H.room<E9 (Q3 r) then 7 else 0
def A07 (H:Sh) (r:Rc) (press:Bool):Sh:=if H.room<E9 (Q3 r) then H.fell else H.write r press
theorem H5 (gs gj gc b:Nat) (H:Sh) (h:H.Ok) (hd:H.down=false) (r:Rc) (hr:r.Ok) (press:Bool) (kind:Int) (v:V) (ev:vRc r=P9 [O7 kind,v]) (x x':SX) (A A':Option Addr) (cap cap':Nat)
  (Sx:Nat->Prop) (w:World) (hlt:∀ x,Sx x->x<w.heap.size) (he:EnvFree Sx w) (hK:ObjK gs 92 (shC gj H.k x A cap false) (fun S w=>KnR H.k x A cap S w/\KnR (A0O H.k r) x' A' cap' S w) (JourK gj gc b H.jour) Sx w)
  (Sv:Nat->Prop) (B:Option Addr) (c:Nat) (hv:RepC Sv w v (Y3 v B c)) (hvd:∀ y,Sv y->y<w.heap.size/\¬ Sx y):
  Calls Tryz.prog 66 #[.pointer (some ⟨gs,0,none⟩),.agg (knC (A0O H.k r) x' A' cap').toArray,.bool press,.int .i64 kind,.agg (Y3 v B c).toArray] w (RetOb Sx w (.int .i64 (A9M H r)) (ShelfK gs gj gc b (A07 H r press))):=by
 have hRs:Stab (fun S w=>KnR H.k x A cap S w/\KnR (A0O H.k r) x' A' cap' S w):=yc.and yc;have hlen:=h.len;have hc:=hK.enter hlt hRs yd;obtain⟨q,hq0⟩:∃ q:Jour × Int,q=if H.room<E9 (Q3 r) then (H.fell.jour,5) else ((H.write r press).jour,0):=⟨_,rfl⟩
 have htz:=A0N hr;have hsz:=h.size;have hrm:=h.room;have htt:=h.tot;have hja:=fun Sa w hlt he hO=>B3D gj gc b H.room H.scr H.first (H.l.map Q3) H.down (Q3 r) press (by omega) ⟨hrm,by unfold Sh.room;omega⟩ (by have:=A7e H;omega) (by rw [zj];omega) Sa w hlt he hO;rw [hd,B67 h hd hr press,<-hq0] at hja;have ej:H.jour=JL H.room H.scr H.first (H.l.map Q3) false:=by unfold Sh.jour;rw [hd]
 have hvok:=(A2C hr).2.2;have hvl:=B0p hr;rw [ev] at hvok hvl;have hput:∀ (S:Nat->Prop) (w:World) (g:Nat),RepC S w (P9 [O7 kind,v]) [.int .i64 3,.int .i64 0,.string ⟨#[]⟩,.slice (some ⟨g,0,none⟩) 2 2]->Tab w->Calls Tryz.prog 117 #[.agg #[.int .i64 3,.int .i64 0,.string ⟨#[]⟩,.slice (some ⟨g,0,none⟩) 2 2]] w (C8 (.string (Q3 r)) w):=fun S w g hrep ht=>by have hp:=A69 (P9 [O7 kind,v]) hvok (by omega) 3 0 ⟨#[]⟩ (some ⟨g,0,none⟩) 2 2 S w hrep ht;rw [<-ev] at hp;exact hp
 refine vE Tryz.func66 ?_;refine hc.n fun g6 wg6 hg6 hc=>?_;refine hc.n fun g9 wg9 hg9 hc=>?_;rw [ej] at hc;refine Drawn.join (α:=Nat) (fun z=>[(0,.pointer (some ⟨gs,0,none⟩)),(6,.pointer (some ⟨g6,0,none⟩)),(11,.int .i64 (if q.2=0 then 0 else 7))])
  (fun z wS=>∃ S2,CtxF no (bare w) S2 wS [(z,107,[.int .i64 1,.int .i64 kind,.string ⟨#[]⟩,.slice none 0 0]++Y3 v B c),(g9,107,Y3 v B c),(g6,90,knC (A0O H.k r) x' A' cap'),(gs,92,shC gj H.k x A cap (q.2 != 0))] [] (Sep 0 (Sep 0 (Keep w Sx) (fun S w=>KnR H.k x A cap S w/\KnR (A0O H.k r) x' A' cap' S w)) (JourK gj gc b q.1))) ?_ ?_
 ·refine vD (.Q [0,1,2,3,5,11] (.n 4 (.n 6 (.n 7 (.n 8 (.n 9 (.n 10 (.n 12 (.n 13 (.q 14 .fin) .stop) .stop) .stop) .stop) .stop) .stop) (.n 7 (.n 6 (.n 8 (.n 9 (.n 10 (.n 12 (.n 13 (.q 14 .fin) .stop) .stop) .stop) .stop) .stop) .stop) .stop)) (.n 6 (.n 4 (.n 7 (.n 8 (.n 9 (.n 10 (.n 12 (.n 13 (.q 14 .fin) .stop) .stop) .stop) .stop) .stop) .stop) (.n 7 (.n 4 (.n 8 (.n 9 (.n 10 (.n 12 (.n 13 (.q 14 .fin) .stop) .stop) .stop) .stop) .stop) (.n 8 (.n 4 (.n 9 (.n 10 (.n 12 (.n 13 (.q 14 .fin) .stop) .stop) .stop) .stop) (.n 9 (.n 4 (.n 10 (.n 12 (.n 13 (.q 14 .fin) .stop) .stop) .stop) (.n 10 (.n 4 (.n 12 (.n 13 (.q 14 .fin) .stop) .stop) .stop) .stop)) .stop)) .stop)) .stop)) (.n 7 (.n 4 (.n 6 (.n 8 (.n 9 (.n 10 (.n 12 (.n 13 (.q 14 .fin) .stop) .stop) .stop) .stop) .stop) .stop) (.n 6 (.n 4 (.n 8 (.n 9 (.n 10 (.n 12 (.n 13 (.q 14 .fin) .stop) .stop) .stop) .stop) .stop) (.n 8 (.n 4 (.n 9 (.n 10 (.n 12 (.n 13 (.q 14 .fin) .stop) .stop) .stop) .stop) (.n 9 (.n 4 (.n 10 (.n 12 (.n 13 (.q 14 .fin) .stop) .stop) .stop) (.n 10 (.n 4 (.n 12 (.n 13 (.q 14 .fin) .stop) .stop) .stop) .stop)) .stop)) .stop)) .stop)) .stop)))) (fun _=>True) trivial ?_;have hc:=hc.drew;refine⟨?_,?_⟩
  ·skip
   refine⟨_,hc.cell 2 rfl _ rfl,trivial,?_⟩;refine⟨?_,?_⟩
   ·skip
    refine hc.q' (M3 kind _) fun wQ hQ hc=>?_;refine⟨hc.a' 0 rfl rfl ?_,trivial⟩;refine⟨hc.n' fun gw wgw hgw hc=>?_,trivial⟩;refine⟨hc.q' (K5 (some ⟨gw,0,none⟩) 2 2 _) fun wQ hQ hc=>?_,trivial⟩;refine⟨?_,trivial⟩;obtain⟨S1,So,h1,h2,⟨Sk,Sr,k1,k2,k3,k4⟩,h4⟩:=hc.row;have hv2:=Keep.of k3 (T6 v _) hv hvd;refine B4 (hput (fun y=>y=gw\/Sk y) _ gw (by rw [P9,RepC];exact⟨some ⟨gw,0,none⟩,2,_,rfl,.cons (.leaf _ _ 1 kind ⟨#[]⟩) (.cons (hv2.sub fun b hb=>.inr hb) (.nil _ _)),rowOf (hc.blk 0 rfl) (.inl rfl) 2 (by decide)⟩) (he.now hc).tab) ?_;intro wQ hQ;have hc:=(hc.quiet hQ).1;refine⟨trivial,?_⟩;refine⟨?_,trivial⟩;obtain⟨S1,Sa,h1,h2,h3,hO⟩:=hc.row;refine⟨(hja Sa _ (fun x hx=>hc.ctx.lt x (h2 x hx).1) (he.sub h3 h1) hO).mono fun en wq hq=>?_⟩;obtain⟨e1,hT,Sn,hSn,hO⟩:=hq;have hc:=hc.turnO (Sep.stab y8 hRs) h1 h2 h3 hT hSn hO yd;refine⟨_,e1,trivial,?_⟩;refine⟨⟨(E7 gs gj H.k x A cap q.2 _ (hc.blk 3 rfl)).mono fun en wq hq=>?_⟩,trivial⟩;obtain⟨e1,hT,hB⟩:=hq;have hc:=(hc.turnL 3 rfl hT hB).1;refine⟨_,e1,trivial,?_⟩;exact⟨gw,⟨rfl,rfl,rfl,trivial⟩,_,hc⟩
   refine⟨hc.a' 0 rfl rfl ?_,trivial⟩;refine⟨hc.q' (M3 kind _) fun wQ hQ hc=>?_,trivial⟩;refine⟨hc.n' fun gw wgw hgw hc=>?_,trivial⟩;refine⟨hc.q' (K5 (some ⟨gw,0,none⟩) 2 2 _) fun wQ hQ hc=>?_,trivial⟩;refine⟨?_,trivial⟩;obtain⟨S1,So,h1,h2,⟨Sk,Sr,k1,k2,k3,k4⟩,h4⟩:=hc.row;have hv2:=Keep.of k3 (T6 v _) hv hvd;refine B4 (hput (fun y=>y=gw\/Sk y) _ gw (by rw [P9,RepC];exact⟨some ⟨gw,0,none⟩,2,_,rfl,.cons (.leaf _ _ 1 kind ⟨#[]⟩) (.cons (hv2.sub fun b hb=>.inr hb) (.nil _ _)),rowOf (hc.blk 0 rfl) (.inl rfl) 2 (by decide)⟩) (he.now hc).tab) ?_;intro wQ hQ;have hc:=(hc.quiet hQ).1;refine⟨trivial,?_⟩;refine⟨?_,trivial⟩;obtain⟨S1,Sa,h1,h2,h3,hO⟩:=hc.row;refine⟨(hja Sa _ (fun x hx=>hc.ctx.lt x (h2 x hx).1) (he.sub h3 h1) hO).mono fun en wq hq=>?_⟩;obtain⟨e1,hT,Sn,hSn,hO⟩:=hq;have hc:=hc.turnO (Sep.stab y8 hRs) h1 h2 h3 hT hSn hO yd;refine⟨_,e1,trivial,?_⟩;refine⟨⟨(E7 gs gj H.k x A cap q.2 _ (hc.blk 3 rfl)).mono fun en wq hq=>?_⟩,trivial⟩;obtain⟨e1,hT,hB⟩:=hq;have hc:=(hc.turnL 3 rfl hT hB).1;refine⟨_,e1,trivial,?_⟩;exact⟨gw,⟨rfl,rfl,rfl,trivial⟩,_,hc⟩
  refine⟨?_,?_⟩
  ·skip
   refine hc.q' (M3 kind _) fun wQ hQ hc=>?_;refine⟨?_,?_⟩
   ·skip
    refine⟨_,hc.cell 2 rfl _ rfl,trivial,?_⟩;refine⟨hc.a' 0 rfl rfl ?_,trivial⟩;refine⟨hc.n' fun gw wgw hgw hc=>?_,trivial⟩;refine⟨hc.q' (K5 (some ⟨gw,0,none⟩) 2 2 _) fun wQ hQ hc=>?_,trivial⟩;refine⟨?_,trivial⟩;obtain⟨S1,So,h1,h2,⟨Sk,Sr,k1,k2,k3,k4⟩,h4⟩:=hc.row;have hv2:=Keep.of k3 (T6 v _) hv hvd;refine B4 (hput (fun y=>y=gw\/Sk y) _ gw (by rw [P9,RepC];exact⟨some ⟨gw,0,none⟩,2,_,rfl,.cons (.leaf _ _ 1 kind ⟨#[]⟩) (.cons (hv2.sub fun b hb=>.inr hb) (.nil _ _)),rowOf (hc.blk 0 rfl) (.inl rfl) 2 (by decide)⟩) (he.now hc).tab) ?_;intro wQ hQ;have hc:=(hc.quiet hQ).1;refine⟨trivial,?_⟩;refine⟨?_,trivial⟩;obtain⟨S1,Sa,h1,h2,h3,hO⟩:=hc.row;refine⟨(hja Sa _ (fun x hx=>hc.ctx.lt x (h2 x hx).1) (he.sub h3 h1) hO).mono fun en wq hq=>?_⟩;obtain⟨e1,hT,Sn,hSn,hO⟩:=hq;have hc:=hc.turnO (Sep.stab y8 hRs) h1 h2 h3 hT hSn hO yd;refine⟨_,e1,trivial,?_⟩;refine⟨⟨(E7 gs gj H.k x A cap q.2 _ (hc.blk 3 rfl)).mono fun en wq hq=>?_⟩,trivial⟩;obtain⟨e1,hT,hB⟩:=hq;have hc:=(hc.turnL 3 rfl hT hB).1;refine⟨_,e1,trivial,?_⟩;exact⟨gw,⟨rfl,rfl,rfl,trivial⟩,_,hc⟩
   refine⟨hc.a' 0 rfl rfl ?_,trivial⟩;refine⟨?_,?_⟩
   ·skip
    refine⟨_,hc.cell 2 rfl _ rfl,trivial,?_⟩;refine⟨hc.n' fun gw wgw hgw hc=>?_,trivial⟩;refine⟨hc.q' (K5 (some ⟨gw,0,none⟩) 2 2 _) fun wQ hQ hc=>?_,trivial⟩;refine⟨?_,trivial⟩;obtain⟨S1,So,h1,h2,⟨Sk,Sr,k1,k2,k3,k4⟩,h4⟩:=hc.row;have hv2:=Keep.of k3 (T6 v _) hv hvd;refine B4 (hput (fun y=>y=gw\/Sk y) _ gw (by rw [P9,RepC];exact⟨some ⟨gw,0,none⟩,2,_,rfl,.cons (.leaf _ _ 1 kind ⟨#[]⟩) (.cons (hv2.sub fun b hb=>.inr hb) (.nil _ _)),rowOf (hc.blk 0 rfl) (.inl rfl) 2 (by decide)⟩) (he.now hc).tab) ?_;intro wQ hQ;have hc:=(hc.quiet hQ).1;refine⟨trivial,?_⟩;refine⟨?_,trivial⟩;obtain⟨S1,Sa,h1,h2,h3,hO⟩:=hc.row;refine⟨(hja Sa _ (fun x hx=>hc.ctx.lt x (h2 x hx).1) (he.sub h3 h1) hO).mono fun en wq hq=>?_⟩;obtain⟨e1,hT,Sn,hSn,hO⟩:=hq;have hc:=hc.turnO (Sep.stab y8 hRs) h1 h2 h3 hT hSn hO yd;refine⟨_,e1,trivial,?_⟩;refine⟨⟨(E7 gs gj H.k x A cap q.2 _ (hc.blk 3 rfl)).mono fun en wq hq=>?_⟩,trivial⟩;obtain⟨e1,hT,hB⟩:=hq;have hc:=(hc.turnL 3 rfl hT hB).1;refine⟨_,e1,trivial,?_⟩;exact⟨gw,⟨rfl,rfl,rfl,trivial⟩,_,hc⟩
   refine⟨hc.n' fun gw wgw hgw hc=>?_,trivial⟩;refine⟨?_,?_⟩
   ·skip
    refine⟨_,hc.cell 3 rfl _ rfl,trivial,?_⟩;refine⟨hc.q' (K5 (some ⟨gw,0,none⟩) 2 2 _) fun wQ hQ hc=>?_,trivial⟩;refine⟨?_,trivial⟩;obtain⟨S1,So,h1,h2,⟨Sk,Sr,k1,k2,k3,k4⟩,h4⟩:=hc.row;have hv2:=Keep.of k3 (T6 v _) hv hvd;refine B4 (hput (fun y=>y=gw\/Sk y) _ gw (by rw [P9,RepC];exact⟨some ⟨gw,0,none⟩,2,_,rfl,.cons (.leaf _ _ 1 kind ⟨#[]⟩) (.cons (hv2.sub fun b hb=>.inr hb) (.nil _ _)),rowOf (hc.blk 0 rfl) (.inl rfl) 2 (by decide)⟩) (he.now hc).tab) ?_;intro wQ hQ;have hc:=(hc.quiet hQ).1;refine⟨trivial,?_⟩;refine⟨?_,trivial⟩;obtain⟨S1,Sa,h1,h2,h3,hO⟩:=hc.row;refine⟨(hja Sa _ (fun x hx=>hc.ctx.lt x (h2 x hx).1) (he.sub h3 h1) hO).mono fun en wq hq=>?_⟩;obtain⟨e1,hT,Sn,hSn,hO⟩:=hq;have hc:=hc.turnO (Sep.stab y8 hRs) h1 h2 h3 hT hSn hO yd;refine⟨_,e1,trivial,?_⟩;refine⟨⟨(E7 gs gj H.k x A cap q.2 _ (hc.blk 3 rfl)).mono fun en wq hq=>?_⟩,trivial⟩;obtain⟨e1,hT,hB⟩:=hq;have hc:=(hc.turnL 3 rfl hT hB).1;refine⟨_,e1,trivial,?_⟩;exact⟨gw,⟨rfl,rfl,rfl,trivial⟩,_,hc⟩
   refine⟨hc.q' (K5 (some ⟨gw,0,none⟩) 2 2 _) fun wQ hQ hc=>?_,trivial⟩;refine⟨?_,?_⟩
   ·skip
    refine⟨_,hc.cell 3 rfl _ rfl,trivial,?_⟩;refine⟨?_,trivial⟩;obtain⟨S1,So,h1,h2,⟨Sk,Sr,k1,k2,k3,k4⟩,h4⟩:=hc.row;have hv2:=Keep.of k3 (T6 v _) hv hvd;refine B4 (hput (fun y=>y=gw\/Sk y) _ gw (by rw [P9,RepC];exact⟨some ⟨gw,0,none⟩,2,_,rfl,.cons (.leaf _ _ 1 kind ⟨#[]⟩) (.cons (hv2.sub fun b hb=>.inr hb) (.nil _ _)),rowOf (hc.blk 0 rfl) (.inl rfl) 2 (by decide)⟩) (he.now hc).tab) ?_;intro wQ hQ;have hc:=(hc.quiet hQ).1;refine⟨trivial,?_⟩;refine⟨?_,trivial⟩;obtain⟨S1,Sa,h1,h2,h3,hO⟩:=hc.row;refine⟨(hja Sa _ (fun x hx=>hc.ctx.lt x (h2 x hx).1) (he.sub h3 h1) hO).mono fun en wq hq=>?_⟩;obtain⟨e1,hT,Sn,hSn,hO⟩:=hq;have hc:=hc.turnO (Sep.stab y8 hRs) h1 h2 h3 hT hSn hO yd;refine⟨_,e1,trivial,?_⟩;refine⟨⟨(E7 gs gj H.k x A cap q.2 _ (hc.blk 3 rfl)).mono fun en wq hq=>?_⟩,trivial⟩;obtain⟨e1,hT,hB⟩:=hq;have hc:=(hc.turnL 3 rfl hT hB).1;refine⟨_,e1,trivial,?_⟩;exact⟨gw,⟨rfl,rfl,rfl,trivial⟩,_,hc⟩
   refine⟨?_,trivial⟩;obtain⟨S1,So,h1,h2,⟨Sk,Sr,k1,k2,k3,k4⟩,h4⟩:=hc.row;have hv2:=Keep.of k3 (T6 v _) hv hvd;refine B4 (hput (fun y=>y=gw\/Sk y) _ gw (by rw [P9,RepC];exact⟨some ⟨gw,0,none⟩,2,_,rfl,.cons (.leaf _ _ 1 kind ⟨#[]⟩) (.cons (hv2.sub fun b hb=>.inr hb) (.nil _ _)),rowOf (hc.blk 0 rfl) (.inl rfl) 2 (by decide)⟩) (he.now hc).tab) ?_;intro wQ hQ;have hc:=(hc.quiet hQ).1;refine⟨trivial,?_⟩;refine⟨⟨_,hc.cell 3 rfl _ rfl,trivial,?_⟩,trivial⟩;refine⟨?_,trivial⟩;obtain⟨S1,Sa,h1,h2,h3,hO⟩:=hc.row;refine⟨(hja Sa _ (fun x hx=>hc.ctx.lt x (h2 x hx).1) (he.sub h3 h1) hO).mono fun en wq hq=>?_⟩;obtain⟨e1,hT,Sn,hSn,hO⟩:=hq;have hc:=hc.turnO (Sep.stab y8 hRs) h1 h2 h3 hT hSn hO yd;refine⟨_,e1,trivial,?_⟩;refine⟨⟨(E7 gs gj H.k x A cap q.2 _ (hc.blk 3 rfl)).mono fun en wq hq=>?_⟩,trivial⟩;obtain⟨e1,hT,hB⟩:=hq;have hc:=(hc.turnL 3 rfl hT hB).1;refine⟨_,e1,trivial,?_⟩;exact⟨gw,⟨rfl,rfl,rfl,trivial⟩,_,hc⟩
  refine⟨hc.a' 0 rfl rfl ?_,trivial⟩;refine⟨?_,?_⟩
  ·skip
   refine⟨_,hc.cell 2 rfl _ rfl,trivial,?_⟩;refine⟨hc.q' (M3 kind _) fun wQ hQ hc=>?_,trivial⟩;refine⟨hc.n' fun gw wgw hgw hc=>?_,trivial⟩;refine⟨hc.q' (K5 (some ⟨gw,0,none⟩) 2 2 _) fun wQ hQ hc=>?_,trivial⟩;refine⟨?_,trivial⟩;obtain⟨S1,So,h1,h2,⟨Sk,Sr,k1,k2,k3,k4⟩,h4⟩:=hc.row;have hv2:=Keep.of k3 (T6 v _) hv hvd;refine B4 (hput (fun y=>y=gw\/Sk y) _ gw (by rw [P9,RepC];exact⟨some ⟨gw,0,none⟩,2,_,rfl,.cons (.leaf _ _ 1 kind ⟨#[]⟩) (.cons (hv2.sub fun b hb=>.inr hb) (.nil _ _)),rowOf (hc.blk 0 rfl) (.inl rfl) 2 (by decide)⟩) (he.now hc).tab) ?_;intro wQ hQ;have hc:=(hc.quiet hQ).1;refine⟨trivial,?_⟩;refine⟨?_,trivial⟩;obtain⟨S1,Sa,h1,h2,h3,hO⟩:=hc.row;refine⟨(hja Sa _ (fun x hx=>hc.ctx.lt x (h2 x hx).1) (he.sub h3 h1) hO).mono fun en wq hq=>?_⟩;obtain⟨e1,hT,Sn,hSn,hO⟩:=hq;have hc:=hc.turnO (Sep.stab y8 hRs) h1 h2 h3 hT hSn hO yd;refine⟨_,e1,trivial,?_⟩;refine⟨⟨(E7 gs gj H.k x A cap q.2 _ (hc.blk 3 rfl)).mono fun en wq hq=>?_⟩,trivial⟩;obtain⟨e1,hT,hB⟩:=hq;have hc:=(hc.turnL 3 rfl hT hB).1;refine⟨_,e1,trivial,?_⟩;exact⟨gw,⟨rfl,rfl,rfl,trivial⟩,_,hc⟩
  refine⟨hc.q' (M3 kind _) fun wQ hQ hc=>?_,trivial⟩;refine⟨?_,?_⟩
  ·skip
   refine⟨_,hc.cell 2 rfl _ rfl,trivial,?_⟩;refine⟨hc.n' fun gw wgw hgw hc=>?_,trivial⟩;refine⟨hc.q' (K5 (some ⟨gw,0,none⟩) 2 2 _) fun wQ hQ hc=>?_,trivial⟩;refine⟨?_,trivial⟩;obtain⟨S1,So,h1,h2,⟨Sk,Sr,k1,k2,k3,k4⟩,h4⟩:=hc.row;have hv2:=Keep.of k3 (T6 v _) hv hvd;refine B4 (hput (fun y=>y=gw\/Sk y) _ gw (by rw [P9,RepC];exact⟨some ⟨gw,0,none⟩,2,_,rfl,.cons (.leaf _ _ 1 kind ⟨#[]⟩) (.cons (hv2.sub fun b hb=>.inr hb) (.nil _ _)),rowOf (hc.blk 0 rfl) (.inl rfl) 2 (by decide)⟩) (he.now hc).tab) ?_;intro wQ hQ;have hc:=(hc.quiet hQ).1;refine⟨trivial,?_⟩;refine⟨?_,trivial⟩;obtain⟨S1,Sa,h1,h2,h3,hO⟩:=hc.row;refine⟨(hja Sa _ (fun x hx=>hc.ctx.lt x (h2 x hx).1) (he.sub h3 h1) hO).mono fun en wq hq=>?_⟩;obtain⟨e1,hT,Sn,hSn,hO⟩:=hq;have hc:=hc.turnO (Sep.stab y8 hRs) h1 h2 h3 hT hSn hO yd;refine⟨_,e1,trivial,?_⟩;refine⟨⟨(E7 gs gj H.k x A cap q.2 _ (hc.blk 3 rfl)).mono fun en wq hq=>?_⟩,trivial⟩;obtain⟨e1,hT,hB⟩:=hq;have hc:=(hc.turnL 3 rfl hT hB).1;refine⟨_,e1,trivial,?_⟩;exact⟨gw,⟨rfl,rfl,rfl,trivial⟩,_,hc⟩
  refine⟨hc.n' fun gw wgw hgw hc=>?_,trivial⟩;refine⟨?_,?_⟩
  ·skip
   refine⟨_,hc.cell 3 rfl _ rfl,trivial,?_⟩;refine⟨hc.q' (K5 (some ⟨gw,0,none⟩) 2 2 _) fun wQ hQ hc=>?_,trivial⟩;refine⟨?_,trivial⟩;obtain⟨S1,So,h1,h2,⟨Sk,Sr,k1,k2,k3,k4⟩,h4⟩:=hc.row;have hv2:=Keep.of k3 (T6 v _) hv hvd;refine B4 (hput (fun y=>y=gw\/Sk y) _ gw (by rw [P9,RepC];exact⟨some ⟨gw,0,none⟩,2,_,rfl,.cons (.leaf _ _ 1 kind ⟨#[]⟩) (.cons (hv2.sub fun b hb=>.inr hb) (.nil _ _)),rowOf (hc.blk 0 rfl) (.inl rfl) 2 (by decide)⟩) (he.now hc).tab) ?_;intro wQ hQ;have hc:=(hc.quiet hQ).1;refine⟨trivial,?_⟩;refine⟨?_,trivial⟩;obtain⟨S1,Sa,h1,h2,h3,hO⟩:=hc.row;refine⟨(hja Sa _ (fun x hx=>hc.ctx.lt x (h2 x hx).1) (he.sub h3 h1) hO).mono fun en wq hq=>?_⟩;obtain⟨e1,hT,Sn,hSn,hO⟩:=hq;have hc:=hc.turnO (Sep.stab y8 hRs) h1 h2 h3 hT hSn hO yd;refine⟨_,e1,trivial,?_⟩;refine⟨⟨(E7 gs gj H.k x A cap q.2 _ (hc.blk 3 rfl)).mono fun en wq hq=>?_⟩,trivial⟩;obtain⟨e1,hT,hB⟩:=hq;have hc:=(hc.turnL 3 rfl hT hB).1;refine⟨_,e1,trivial,?_⟩;exact⟨gw,⟨rfl,rfl,rfl,trivial⟩,_,hc⟩
  refine⟨hc.q' (K5 (some ⟨gw,0,none⟩) 2 2 _) fun wQ hQ hc=>?_,trivial⟩;refine⟨?_,?_⟩
  ·skip
   refine⟨_,hc.cell 3 rfl _ rfl,trivial,?_⟩;refine⟨?_,trivial⟩;obtain⟨S1,So,h1,h2,⟨Sk,Sr,k1,k2,k3,k4⟩,h4⟩:=hc.row;have hv2:=Keep.of k3 (T6 v _) hv hvd;refine B4 (hput (fun y=>y=gw\/Sk y) _ gw (by rw [P9,RepC];exact⟨some ⟨gw,0,none⟩,2,_,rfl,.cons (.leaf _ _ 1 kind ⟨#[]⟩) (.cons (hv2.sub fun b hb=>.inr hb) (.nil _ _)),rowOf (hc.blk 0 rfl) (.inl rfl) 2 (by decide)⟩) (he.now hc).tab) ?_;intro wQ hQ;have hc:=(hc.quiet hQ).1;refine⟨trivial,?_⟩;refine⟨?_,trivial⟩;obtain⟨S1,Sa,h1,h2,h3,hO⟩:=hc.row;refine⟨(hja Sa _ (fun x hx=>hc.ctx.lt x (h2 x hx).1) (he.sub h3 h1) hO).mono fun en wq hq=>?_⟩;obtain⟨e1,hT,Sn,hSn,hO⟩:=hq;have hc:=hc.turnO (Sep.stab y8 hRs) h1 h2 h3 hT hSn hO yd;refine⟨_,e1,trivial,?_⟩;refine⟨⟨(E7 gs gj H.k x A cap q.2 _ (hc.blk 3 rfl)).mono fun en wq hq=>?_⟩,trivial⟩;obtain⟨e1,hT,hB⟩:=hq;have hc:=(hc.turnL 3 rfl hT hB).1;refine⟨_,e1,trivial,?_⟩;exact⟨gw,⟨rfl,rfl,rfl,trivial⟩,_,hc⟩
  refine⟨?_,trivial⟩;obtain⟨S1,So,h1,h2,⟨Sk,Sr,k1,k2,k3,k4⟩,h4⟩:=hc.row;have hv2:=Keep.of k3 (T6 v _) hv hvd;refine B4 (hput (fun y=>y=gw\/Sk y) _ gw (by rw [P9,RepC];exact⟨some ⟨gw,0,none⟩,2,_,rfl,.cons (.leaf _ _ 1 kind ⟨#[]⟩) (.cons (hv2.sub fun b hb=>.inr hb) (.nil _ _)),rowOf (hc.blk 0 rfl) (.inl rfl) 2 (by decide)⟩) (he.now hc).tab) ?_;intro wQ hQ;have hc:=(hc.quiet hQ).1;refine⟨trivial,?_⟩;refine⟨⟨_,hc.cell 3 rfl _ rfl,trivial,?_⟩,trivial⟩;refine⟨?_,trivial⟩;obtain⟨S1,Sa,h1,h2,h3,hO⟩:=hc.row;refine⟨(hja Sa _ (fun x hx=>hc.ctx.lt x (h2 x hx).1) (he.sub h3 h1) hO).mono fun en wq hq=>?_⟩;obtain⟨e1,hT,Sn,hSn,hO⟩:=hq;have hc:=hc.turnO (Sep.stab y8 hRs) h1 h2 h3 hT hSn hO yd;refine⟨_,e1,trivial,?_⟩;refine⟨⟨(E7 gs gj H.k x A cap q.2 _ (hc.blk 3 rfl)).mono fun en wq hq=>?_⟩,trivial⟩;obtain⟨e1,hT,hB⟩:=hq;have hc:=(hc.turnL 3 rfl hT hB).1;refine⟨_,e1,trivial,?_⟩;exact⟨gw,⟨rfl,rfl,rfl,trivial⟩,_,hc⟩
 clear hc;rintro gw u2 w2 ⟨S2,hc⟩;unfold A9M A07;by_cases hroom:H.room<E9 (Q3 r)
 ·rw [y6 hroom] at hq0;rw [y6 hroom,y6 hroom];subst hq0;exact RetOb.sh (H:=H.fell) (dn:=true) (hc.drop.drop.drop.midNow (fun S w h=>h.1) y8 yc yd) rfl rfl rfl rfl _
 ·rw [y7 hroom] at hq0;rw [y7 hroom,y7 hroom];subst hq0;refine hc.a 2 rfl rfl ?_;refine hc.s 3 rfl fun wS hS hc=>?_;exact RetOb.sh (H:=H.write r press) (dn:=false) (hc.drop.drop.drop.midNow (fun S w h=>h.2) y8 yc yd) rfl (Sh.write_k H r press) hd rfl _
def M8 (H:Sh) (d:D):Sh × Int:=if H.down then (H,7) else if U1 H.k d=0 then (A07 H (.add d) true,A9M H (.add d)) else (H,U1 H.k d)
theorem A7f {k:Known} {d:D} (h:U1 k d=0):L3 d=true/\B2B k (.add d):=by
 unfold U1 at h;split at h
 ·rename_i hm;split at h
  ·cases h
  ·rename_i hc;exact⟨hm,by omega,by omega⟩
 ·cases h
theorem B3F (gs gj gc b:Nat) (H:Sh) (h:H.Ok) (d:D) (hdk:d.Ok) (Sx:Nat->Prop) (w:World) (hlt:∀ x,Sx x->x<w.heap.size) (he:EnvFree Sx w) (hK:ShelfK gs gj gc b H Sx w):
  Calls Tryz.prog 28 #[.pointer (some ⟨gs,0,none⟩),.agg (dC d).toArray] w (RetOb Sx w (.int .i64 (M8 H d).2) (ShelfK gs gj gc b (M8 H d).1)):=by
 have hko:=h.k;obtain⟨x,A,cap,hO⟩:=hK;have hc:=hO.enter hlt yc yd;obtain⟨q,hq9⟩:∃ q,q=M8 H d:=⟨_,rfl⟩;rw [<-hq9];unfold M8 at hq9;refine vE Tryz.func28 ?_;refine hc.n fun g3 wg3 hg3 hc=>?_;refine hc.q (A1Q gs gj H.k x A cap H.down _ (hc.blk 1 rfl)) fun wQ hQ hc=>?_;cases hd:H.down with
 | true=>
  rw [hd] at hc hq9;rw [y6 rfl] at hq9;subst hq9;exact RetOb.sh (H:=H) (dn:=true) hc.drop rfl rfl hd rfl _
 | false=>
 rw [hd] at hc hq9;rw [y7 (by decide)] at hq9;refine⟨knC H.k x A cap,rfl,hc.cellsAt 1 rfl 1 (knC H.k x A cap) rfl,?_⟩;refine hc.n fun g5 wg5 hg5 hc=>?_;refine hc.s 0 rfl fun wS hS hc=>?_;refine hc.a 1 rfl rfl ?_;obtain⟨Sr,hR,hSr,hmid⟩:=hc.mid (zb _) y8 yc yd;refine⟨(B0z H.k hko d hdk x A cap g5 Sr _ (hc.blk 0 rfl) (fun y hy=>⟨hc.ctx.lt y (hSr y hy),fun e=>(hc.ctx.locs.notS (k:=0) rfl).1 (e▸hSr y hy)⟩) hR).mono fun en wq hq=>?_⟩;obtain⟨e1,hT,x',A',cap',hB',hR'⟩:=hq;have hc:=hmid (hc.turnL 0 rfl hT hB') yc hR';refine⟨_,e1,?_⟩;by_cases h0:U1 H.k d=0;rotate_left
 ·rw [y7 h0] at hq9;subst hq9;refine B0 (by simpa using h0) ?_;exact RetOb.sh (H:=H) (dn:=false) (hc.drop.drop.midNow (fun S w h=>h.1) y8 yc yd) rfl rfl hd rfl _
 rw [y6 h0] at hq9;subst hq9;obtain⟨hm,hcan⟩:=A7f h0;have hrc:(Rc.add d).Ok:=⟨hm,hdk⟩;have ek:B5a H.k d=A0O H.k (.add d):=(B5c hrc hcan).2;rw [ek] at hc;refine C3X (by rw [h0];rfl) ?_;have A2k:=A9y d hdk;rw [R8 hm] at A2k;have ev:vRc (.add d)=P9 [O7 1,V2 d]:=by show P9 [O7 1,A1E d]=_;rw [R8 hm]
 refine vD (.q 0 (.n 1 (.n 2 (.n 3 (.n 4 (.q 5 .fin) .stop) .stop) .stop) (.n 2 (.n 1 (.n 3 (.n 4 (.q 5 .fin) .stop) .stop) (.n 3 (.n 1 (.n 4 (.q 5 .fin) .stop) .stop) .stop)) .stop))) (fun _=>True) trivial ?_;have hc:=hc.drew;refine⟨?_,?_⟩
 ·skip
  refine hc.a' 0 rfl rfl ?_;refine⟨hc.a' 1 rfl rfl ?_,trivial⟩;refine⟨?_,trivial⟩;have hlw:=hc.ctx.lt;have hgs:=(hc.blk 2 rfl).lt;refine⟨(A2k _).mono fun en wq hq=>?_⟩;obtain⟨k1,n1,s1,A1,l1,c1,e1,hb,hrep⟩:=hq;obtain⟨A5,c5,ecs⟩:=hrep.cells;unfold Y3 at ecs;cases ecs;have hc:=(hc.quiet hb).1;refine⟨_,e1,trivial,?_⟩;refine⟨?_,trivial⟩;have hc:=hc.drop.drop;obtain⟨Sm,hm0,hkp,hm1,hmS,hag⟩:=hc.againK (fun _ _ h=>h) y8;refine⟨(H5 gs gj gc b H h hd (.add d) hrc true 1 (V2 d) ev x x' A A' cap cap' Sm _ hm0 (he.kept hkp) hm1 _ A1 c1 hrep (fun y hy=>hy.elim (fun h=>h.elim) (fun hy=>⟨hy.2,fun hm=>by
   rcases hmS y hm with e | e
   ·omega
   ·have:=hlw y e;omega⟩))).mono fun en wr hq=>?_⟩
  obtain⟨e1,hT,Sn,hSn,x2,A2,cap2,hO⟩:=hq;obtain⟨S2,hc⟩:=hag hT hSn hO yc yd;refine⟨_,e1,trivial,?_⟩;exact RetOb.sh (H:=A07 H (.add d) true) hc rfl rfl rfl rfl _
 refine⟨hc.a' 1 rfl rfl ?_,trivial⟩;refine⟨?_,?_⟩
 ·skip
  refine hc.a' 0 rfl rfl ?_;refine⟨?_,trivial⟩;have hlw:=hc.ctx.lt;have hgs:=(hc.blk 2 rfl).lt;refine⟨(A2k _).mono fun en wq hq=>?_⟩;obtain⟨k1,n1,s1,A1,l1,c1,e1,hb,hrep⟩:=hq;obtain⟨A5,c5,ecs⟩:=hrep.cells;unfold Y3 at ecs;cases ecs;have hc:=(hc.quiet hb).1;refine⟨_,e1,trivial,?_⟩;refine⟨?_,trivial⟩;have hc:=hc.drop.drop;obtain⟨Sm,hm0,hkp,hm1,hmS,hag⟩:=hc.againK (fun _ _ h=>h) y8;refine⟨(H5 gs gj gc b H h hd (.add d) hrc true 1 (V2 d) ev x x' A A' cap cap' Sm _ hm0 (he.kept hkp) hm1 _ A1 c1 hrep (fun y hy=>hy.elim (fun h=>h.elim) (fun hy=>⟨hy.2,fun hm=>by
   rcases hmS y hm with e | e
   ·omega
   ·have:=hlw y e;omega⟩))).mono fun en wr hq=>?_⟩
  obtain⟨e1,hT,Sn,hSn,x2,A2,cap2,hO⟩:=hq;obtain⟨S2,hc⟩:=hag hT hSn hO yc yd;refine⟨_,e1,trivial,?_⟩;exact RetOb.sh (H:=A07 H (.add d) true) hc rfl rfl rfl rfl _
 refine⟨?_,trivial⟩;have hlw:=hc.ctx.lt;have hgs:=(hc.blk 2 rfl).lt;refine⟨(A2k _).mono fun en wq hq=>?_⟩;obtain⟨k1,n1,s1,A1,l1,c1,e1,hb,hrep⟩:=hq;obtain⟨A5,c5,ecs⟩:=hrep.cells;unfold Y3 at ecs;cases ecs;have hc:=(hc.quiet hb).1;refine⟨_,e1,trivial,?_⟩;refine⟨hc.a' 0 rfl rfl ?_,trivial⟩;refine⟨?_,trivial⟩;have hc:=hc.drop.drop;obtain⟨Sm,hm0,hkp,hm1,hmS,hag⟩:=hc.againK (fun _ _ h=>h) y8;refine⟨(H5 gs gj gc b H h hd (.add d) hrc true 1 (V2 d) ev x x' A A' cap cap' Sm _ hm0 (he.kept hkp) hm1 _ A1 c1 hrep (fun y hy=>hy.elim (fun h=>h.elim) (fun hy=>⟨hy.2,fun hm=>by
  rcases hmS y hm with e | e
  ·omega
  ·have:=hlw y e;omega⟩))).mono fun en wr hq=>?_⟩
 obtain⟨e1,hT,Sn,hSn,x2,A2,cap2,hO⟩:=hq;obtain⟨S2,hc⟩:=hag hT hSn hO yc yd;refine⟨_,e1,trivial,?_⟩;exact RetOb.sh (H:=A07 H (.add d) true) hc rfl rfl rfl rfl _
end Go.Proofs.YtefdfaeieekioaaGreatDoor
section
namespace Go.Vc
open Go Go.RowKit
open Go.Proofs.YtefdfaeieekioaaGreatDoor (no)
section
variable {w0 w w' w1:World} {S Sa:Nat->Prop} {l:List LB} {os:List OR} {R O K X Y:Kn} {g T n0 n1 e sz n cap:Nat} {cs cs' xs:List Value} {A:Option Addr}
theorem CtxF.turnLO (hc:CtxF no w0 S w l os R) (k:Nat) (hk:l[k]?=some (g,T,cs)) (hT:Turn (fun x=>x=g) w w') (hB:Blk w' g T cs') (ho:w'.ownsRow w.heap.size e sz (.slice A n cap) n xs):
  CtxF no w0 (fun x=>ext S w w' x/\∀ a,A=some a->x≠a.block) w' (F4 l k cs') (⟨e,sz,A,n,cap,xs⟩::os) R/\Fut S w (fun x=>ext S w w' x/\∀ a,A=some a->x≠a.block) w':=by
 obtain⟨h1,h2⟩:=hc.turnL k hk hT hB;have hal:∀ a,A=some a->w.heap.size<=a.block/\a.block<w'.heap.size:=fun a ha=>by subst ha;exact ho.lt a.block rfl
 have hf:Fut S w (fun x=>ext S w w' x/\∀ a,A=some a->x≠a.block) w':=⟨fun x hx=>⟨.inl hx,fun a ha e=>by have:=(hal a ha).1;have:=hc.ctx.lt x hx;omega⟩,h2.2⟩;have hlow:∀ x∈F4 l k cs',x.1<w.heap.size:=fun x hx=>by obtain⟨y,hy,e⟩:=J4 hx;rw [<-e];exact hc.ctx.locs.lt y hy
 have hc2:CtxF no w0 (fun x=>ext S w w' x/\∀ a,A=some a->x≠a.block) w' (F4 l k cs') os R:=
  ⟨⟨h1.ctx.below,fun _ h=>h.elim,fun x hx=>h1.ctx.new x hx.1,fun x hx=>h1.ctx.lt x hx.1,h1.ctx.locs.mono (fun _ _=>rfl) (fun x hx hs=>hs.1)⟩,h1.own.step fun o ho2 a ha=>⟨rfl,fun hs=>((h1.own.mem o ho2).out a ha).1 hs.1,((h1.own.mem o ho2).out a ha).2⟩,hc.stab _ _ _ _ hc.row hf,hc.stab⟩
 refine⟨hc2.hold ⟨⟨ho.1,?_⟩,fun a ha=>⟨fun hs=>hs.2 a ha rfl,fun x hx=>?_⟩⟩ (fun p hp a b ha hb e=>?_),hf⟩
 ·rcases ho.2 with h | ⟨g',cp,cur,e1,hge,h5⟩
  ·exact .inl h
  ·exact .inr ⟨g',cp,cur,e1,zo hc.ctx.below.size hge,h5⟩
 ·have:=hlow x hx;have:=(hal a ha).1;omega
 ·have:=((hc.own.mem p hp).lt hb).2;have:=(hal a ha).1;omega
theorem CtxF.mid2 (hc:CtxF no w0 S w l os (Sep w0.heap.size (Sep n0 K R) O)) (hn:n0<=w0.heap.size) (hK:Stab K) (hR:Stab R) (hO:Stab O):
  ∃ Sr:Nat->Prop,R Sr w/\(∀ x,Sr x->S x)/\∀ {w':World} {l':List LB} {os':List OR} {R':Kn} {E:Nat->Prop},CtxF no w0 E w' l' os' R'/\Fut S w E w'->(∀ x,E x->ext S w w' x)->∀ {X:Kn},Stab X->X (fun x=>ext Sr w w' x/\E x) w'->CtxF no w0 E w' l' os' (Sep w0.heap.size (Sep n0 K (fun S w=>R S w/\X S w)) O):=by
 obtain⟨S1,So,h1,h2,⟨Sk,Sr,k1,k2,k3,k4⟩,h4⟩:=hc.row;have hlt:∀ x,S x->x<w.heap.size:=hc.ctx.lt;have hrS:∀ x,Sr x->S x:=fun x hx=>(h1 x (k2 x hx).1).1;refine⟨Sr,k4,hrS,fun {w' l' os' R' E} hh hE {X} hX hx=>?_⟩;obtain⟨hc',hf⟩:=hh;have hnew:∀ x,w.heap.size<=x->S x->False:=fun x h1 h2=>absurd (hlt x h2) (by omega);refine hc'.now (fun _=>⟨fun x=>ext S1 w w' x/\E x,So,fun x hx=>⟨hx.2,?_⟩,fun x hx=>⟨hf.1 x (h2 x hx).1,(h2 x hx).2⟩,⟨Sk,fun x=>ext Sr w w' x/\E x,fun x hx=>⟨⟨.inl (k1 x hx).1,hf.1 x (h1 x (k1 x hx).1).1⟩,fun h=>?_⟩,fun x hx=>⟨⟨?_,hx.2⟩,?_⟩,?_,?_,hx⟩,?_⟩) (Sep.stab (Sep.stab hK (hR.and hX)) hO)
 ·rcases hx.1 with hx | hx
  ·exact (h1 x hx).2
  ·exact fun h=>hnew x hx.1 (h2 x h).1
 ·rcases h.1 with h | h
  ·exact (k1 x hx).2 h
  ·exact hnew x h.1 (h1 x (k1 x hx).1).1
 ·rcases hx.1 with hx | hx
  ·exact .inl (k2 x hx).1
  ·exact .inr hx
 ·rcases hx.1 with hx | hx
  ·exact (k2 x hx).2
  ·exact zo hn (zo hc.ctx.below.size hx.1)
 ·exact hK _ _ _ _ k3 ⟨fun _ h=>h,fun x hx=>hf.2 x (h1 x (k1 x hx).1).1⟩
 ·exact hR _ _ _ _ k4 ⟨fun x hx=>⟨.inl hx,hf.1 x (hrS x hx)⟩,fun x hx=>hf.2 x (hrS x hx)⟩
 ·exact hO _ _ _ _ h4 ⟨fun _ h=>h,fun x hx=>hf.2 x (h2 x hx).1⟩
end
end Go.Vc
namespace Go.Proofs.YtefdfaeieekioaaGreatDoor
open Go.Vc Go.RowKit Go.Fl Go.ChangeShapes Go.WideShapes Go.ChangeAt
def enterH (H:Sh) (n:Int):Sh × Int:=if H.down then (H,7) else if n<=H.k.ep then (H,12) else (A07 H (.enter n) true,A9M H (.enter n))
theorem A8j (gs gj gc b:Nat) (H:Sh) (h:H.Ok) (n:Int) (hn:B3 n) (Sx:Nat->Prop) (w:World) (hlt:∀ x,Sx x->x<w.heap.size) (he:EnvFree Sx w) (hK:ShelfK gs gj gc b H Sx w):
  Calls Tryz.prog 94 #[.pointer (some ⟨gs,0,none⟩),.int .i64 n] w (RetOb Sx w (.int .i64 (enterH H n).2) (ShelfK gs gj gc b (enterH H n).1)):=by
 obtain⟨x,A,cap,hO⟩:=hK;have hc:=hO.enter hlt yc yd;obtain⟨q,hq9⟩:∃ q,q=enterH H n:=⟨_,rfl⟩;rw [<-hq9];unfold enterH at hq9;refine vE Tryz.func94 ?_;refine hc.q (A1Q gs gj H.k x A cap H.down _ (hc.blk 0 rfl)) fun wQ hQ hc=>?_;cases hd:H.down with
 | true=>
  rw [hd] at hc hq9;rw [y6 rfl] at hq9;subst hq9;exact RetOb.sh (H:=H) (dn:=true) hc rfl rfl hd rfl _
 | false=>
 rw [hd] at hc hq9;rw [y7 (by decide)] at hq9;refine hc.c 0 rfl rfl ?_;by_cases h0:n<=H.k.ep
 ·rw [y6 h0] at hq9;subst hq9;refine dt h0 ?_;exact RetOb.sh (H:=H) (dn:=false) hc rfl rfl hd rfl _
 rw [y7 h0] at hq9;subst hq9;refine df h0 ?_;refine⟨knC H.k x A cap,rfl,hc.cellsAt 0 rfl 1 (knC H.k x A cap) rfl,?_⟩;refine hc.n fun g5 wg5 hg5 hc=>?_;refine hc.s 0 rfl fun wS hS hc=>?_;refine hc.s 0 rfl fun wS hS hc=>?_;have hrc:(Rc.enter n).Ok:=hn;have hmx:max H.k.ep n=n:=by omega
 have hc:=(hc.midNow (R':=fun S w=>KnR H.k x A cap S w/\KnR (A0O H.k (.enter n)) x A cap S w) (fun S w h=>⟨h,h⟩) y8 (yc.and yc) yd).castL (cs':=knC (A0O H.k (.enter n)) x A cap) (by show C0 (knC H.k x A cap) 9 [.int .i64 n]=knC ⟨H.k.b,H.k.pend,max H.k.ep n,H.k.ln⟩ x A cap;rw [hmx];rfl);refine vD (.Q [0,2] (.n 1 (.n 3 (.n 4 (.q 5 .fin) .stop) .stop) (.n 3 (.n 1 (.n 4 (.q 5 .fin) .stop) .stop) .stop))) (fun _=>True) trivial ?_;have hc:=hc.drew;refine⟨?_,?_⟩
 ·skip
  refine hc.a' 0 rfl rfl ?_;refine⟨hc.q' (M3 n _) fun wQ hQ hc=>?_,trivial⟩;refine⟨?_,trivial⟩;have hc:=hc.drop;obtain⟨Sm,hm0,hkp,hm1,hmS,hag⟩:=hc.againK (fun _ _ h=>h) y8;refine⟨(H5 gs gj gc b H h hd (.enter n) hrc true 3 (O7 n) rfl x x A A cap cap Sm _ hm0 (he.kept hkp) hm1 no none 0 (RepC.leaf _ _ 1 n ⟨#[]⟩) (fun y hy=>hy.elim)).mono fun en wr hq=>?_⟩;obtain⟨e1,hT,Sn,hSn,x2,A2,cap2,hO⟩:=hq;obtain⟨S2,hc⟩:=hag hT hSn hO yc yd;refine⟨_,e1,trivial,?_⟩;exact RetOb.sh (H:=A07 H (.enter n) true) hc rfl rfl rfl rfl _
 refine⟨hc.q' (M3 n _) fun wQ hQ hc=>?_,trivial⟩;refine⟨hc.a' 0 rfl rfl ?_,trivial⟩;refine⟨?_,trivial⟩;have hc:=hc.drop;obtain⟨Sm,hm0,hkp,hm1,hmS,hag⟩:=hc.againK (fun _ _ h=>h) y8;refine⟨(H5 gs gj gc b H h hd (.enter n) hrc true 3 (O7 n) rfl x x A A cap cap Sm _ hm0 (he.kept hkp) hm1 no none 0 (RepC.leaf _ _ 1 n ⟨#[]⟩) (fun y hy=>hy.elim)).mono fun en wr hq=>?_⟩;obtain⟨e1,hT,Sn,hSn,x2,A2,cap2,hO⟩:=hq;obtain⟨S2,hc⟩:=hag hT hSn hO yc yd;refine⟨_,e1,trivial,?_⟩;exact RetOb.sh (H:=A07 H (.enter n) true) hc rfl rfl rfl rfl _
def RetSc (Sx:Nat->Prop) (w:World) (O:Kn) (l:List Res) (e:Int) (en:Ending) (w':World):Prop:=∃ A c,en=.returned (.tuple #[.slice A l.length c,.int .i64 e])/\Turn Sx w w'/\∃ Sn Sl:Nat->Prop,(∀ x,Sn x->(Sx x\/w.heap.size<=x)/\x<w'.heap.size)/\O Sn w'/\(∀ y,Sl y->w.heap.size<=y/\y<w'.heap.size/\¬ Sn y)/\Row Sl w' A l.length c (l.map X8).flatten
theorem RetSc.nil {Sx:Nat->Prop} {w w':World} {O:Kn} {e:Int} {v:Value} {en:Ending} (h:RetOb Sx w v O en w') (e2:v=.tuple #[.slice none 0 0,.int .i64 e]):RetSc Sx w O [] e en w':=by obtain⟨h1,h2,Sn,h3,h4⟩:=h;subst e2;exact⟨none,0,h1,h2,Sn,no,h3,h4,fun y hy=>hy.elim,A28 _ _⟩
def E2 (H:Sh) (n:Int):Sh × List Res × Int:=
 if H.down then (H,[],7) else if H.k.seq<n then (H,[],4) else if (C2 H.k n).2.length=0 then (H,[],0)
 else if H.room<E9 (Q3 (.done n)) then (H.fell,[],7) else (H.write (.done n) false,(C2 H.k n).2,0)
theorem A2J (gs gj gc b:Nat) (H:Sh) (h:H.Ok) (n:Int) (hn:B3 n) (Sx:Nat->Prop) (w:World) (hlt:∀ x,Sx x->x<w.heap.size) (he:EnvFree Sx w) (hK:ShelfK gs gj gc b H Sx w):
  Calls Tryz.prog 98 #[.pointer (some ⟨gs,0,none⟩),.int .i64 n] w (RetSc Sx w (ShelfK gs gj gc b (E2 H n).1) (E2 H n).2.1 (E2 H n).2.2):=by
 have hko:=h.k;obtain⟨x,A,cap,hO⟩:=hK;have hc:=hO.enter hlt yc yd;obtain⟨q,hq9⟩:∃ q,q=E2 H n:=⟨_,rfl⟩;rw [<-hq9];unfold E2 at hq9;refine vE Tryz.func98 ?_;refine hc.q (A1Q gs gj H.k x A cap H.down _ (hc.blk 0 rfl)) fun wQ hQ hc=>?_;cases hd:H.down with
 | true=>
  rw [hd] at hc hq9;rw [y6 rfl] at hq9;subst hq9;exact RetSc.nil (RetOb.sh (H:=H) (dn:=true) hc rfl rfl hd rfl _) rfl
 | false=>
 rw [hd] at hc hq9;rw [y7 (by decide)] at hq9;refine⟨knC H.k x A cap,rfl,hc.cellsAt 0 rfl 1 (knC H.k x A cap) rfl,?_⟩;refine hc.n fun g6 wg6 hg6 hc=>?_;refine hc.s 0 rfl fun wS hS hc=>?_;have hg6s:=(hc.blk 0 rfl).lt;have hg6w:=hg6.1;have hQs:=hQ.size;obtain⟨Sr,hR,hSr,hmid⟩:=hc.mid2 (zb _) y8 yc yd;have hkc:=A5S H.k hko n hn x A cap g6 Sr _ (hc.blk 0 rfl) (fun y hy=>⟨hc.ctx.lt y (hSr y hy),fun e=>(hc.ctx.locs.notS (k:=0) rfl).1 (e▸hSr y hy)⟩) hR;obtain⟨q2,hq2⟩:∃ q2,q2=A2G H.k n:=⟨_,rfl⟩;rw [<-hq2] at hkc;unfold A2G at hq2;refine⟨hkc.mono fun en wq hq=>?_⟩;obtain⟨A2,c2,e1,hT,x',A',cap',Sk,hB',hSk,hR',ho⟩:=hq;have hc:=hmid (hc.turnLO 0 rfl hT hB' ho) (fun y hy=>hy.1) yc (KnR.stab _ _ _ _ _ _ _ _ hR' ⟨fun y hy=>⟨(hSk y hy).1,(hSk y hy).1.elim (fun h=>.inl (hSr y h)) .inr,(hSk y hy).2⟩,fun _ _=>rfl⟩);refine⟨_,e1,?_⟩;by_cases hgt:H.k.seq<n
 ·rw [y6 hgt] at hq9 hq2;subst hq9 hq2;exact RetSc.nil (RetOb.sh (H:=H) (dn:=false) (hc.rest.drop.midNow (fun S w h=>h.1) y8 yc yd) rfl rfl hd rfl _) rfl
 rw [y7 hgt] at hq9 hq2;subst hq2;by_cases hl0:(C2 H.k n).2.length=0
 ·rw [y6 hl0] at hq9;subst hq9;refine B0 (by show (((C2 H.k n).2.length:Int)==0)=true;rw [hl0];rfl) ?_;exact RetSc.nil (RetOb.sh (H:=H) (dn:=false) (hc.rest.drop.midNow (fun S w h=>h.1) y8 yc yd) rfl rfl hd rfl _) rfl
 rw [y7 hl0] at hq9;refine C3X (by show (((C2 H.k n).2.length:Int)==0)=false;rw [y4];omega) ?_;have hrc:(Rc.done n).Ok:=hn;have hSa2:∀ a,A2=some a->¬ Sx a.block:=fun a ha hs=>by subst ha;have h1:=(ho.lt a.block rfl).1;have h2:=hlt _ hs;omega
 refine Drawn.join (α:=Unit) (fun _=>[(0,.pointer (some ⟨gs,0,none⟩)),(7,.slice A2 (C2 H.k n).2.length c2),(9,.int .i64 (A9M H (.done n)))])
  (fun _ wS=>∃ S2 x2 A3 cap2,CtxF no (bare w) S2 wS [(gs,92,shC gj (A07 H (.done n) false).k x2 A3 cap2 (A07 H (.done n) false).down)] [] (Sep 0 (Sep 0 (fun S w1=>Keep w Sx S w1/\RowF w A2 (C2 H.k n).2.length c2 ((C2 H.k n).2.map X8).flatten S w1) (KnR (A07 H (.done n) false).k x2 A3 cap2)) (JourK gj gc b (A07 H (.done n) false).jour))) ?_ ?_
 ·refine vD (.Q [0,2] (.n 1 (.n 3 (.n 4 (.q 5 .fin) .stop) .stop) (.n 3 (.n 1 (.n 4 (.q 5 .fin) .stop) .stop) .stop))) (fun _=>True) trivial ?_;have hc:=hc.drew;refine⟨?_,?_⟩
  ·skip
   refine hc.a' 0 rfl rfl ?_;refine⟨hc.q' (M3 n _) fun wQ hQ hc=>?_,trivial⟩;refine⟨?_,trivial⟩;obtain⟨S3,hc⟩:=hc.drop.toldK (fun _ _ h=>h) hSa2 y8 (yc.and yc) yd;obtain⟨Sm,hm0,hkp,hm1,hmS,hag⟩:=hc.againK (fun _ _ h=>h.1) (y8.and (RowF.stab _ _ _ _ _));refine⟨(H5 gs gj gc b H h hd (.done n) hrc false 2 (O7 n) rfl x x' A A' cap cap' Sm _ hm0 (he.kept hkp) hm1 no none 0 (RepC.leaf _ _ 1 n ⟨#[]⟩) (fun y hy=>hy.elim)).mono fun en wr hq=>?_⟩;obtain⟨e1,hT,Sn,hSn,x2,A3,cap2,hO⟩:=hq;obtain⟨S2,hc⟩:=hag hT hSn hO yc yd;refine⟨_,e1,trivial,?_⟩;exact⟨(),⟨rfl,rfl,rfl,trivial⟩,_,_,_,_,hc⟩
  refine⟨hc.q' (M3 n _) fun wQ hQ hc=>?_,trivial⟩;refine⟨hc.a' 0 rfl rfl ?_,trivial⟩;refine⟨?_,trivial⟩;obtain⟨S3,hc⟩:=hc.drop.toldK (fun _ _ h=>h) hSa2 y8 (yc.and yc) yd;obtain⟨Sm,hm0,hkp,hm1,hmS,hag⟩:=hc.againK (fun _ _ h=>h.1) (y8.and (RowF.stab _ _ _ _ _));refine⟨(H5 gs gj gc b H h hd (.done n) hrc false 2 (O7 n) rfl x x' A A' cap cap' Sm _ hm0 (he.kept hkp) hm1 no none 0 (RepC.leaf _ _ 1 n ⟨#[]⟩) (fun y hy=>hy.elim)).mono fun en wr hq=>?_⟩;obtain⟨e1,hT,Sn,hSn,x2,A3,cap2,hO⟩:=hq;obtain⟨S2,hc⟩:=hag hT hSn hO yc yd;refine⟨_,e1,trivial,?_⟩;exact⟨(),⟨rfl,rfl,rfl,trivial⟩,_,_,_,_,hc⟩
 clear hc;rintro⟨⟩ u wS ⟨S2,x2,A3,cap2,hc⟩;have hrow:∀ (H':Sh),H'=A07 H (.done n) false->Turn Sx w wS/\∃ Sn Sl:Nat->Prop,(∀ x,Sn x->(Sx x\/w.heap.size<=x)/\x<wS.heap.size)/\ShelfK gs gj gc b H' Sn wS/\(∀ y,Sl y->w.heap.size<=y/\y<wS.heap.size/\¬ Sn y)/\Row Sl wS A2 (C2 H.k n).2.length c2 ((C2 H.k n).2.map X8).flatten:=fun H' eH=>by subst eH;obtain⟨k1,Sn,Sk,k2,k3,⟨_,Sl,k4,k5⟩,k6⟩:=ObjK.leaveK hc (fun _ _ h=>h.1);exact⟨k1,Sn,Sl,k2,⟨x2,A3,cap2,k3⟩,fun y hy=>⟨(k4 y hy).2,(k6 y (k4 y hy).1).1,(k6 y (k4 y hy).1).2⟩,k5⟩
 unfold A9M;by_cases hroom:H.room<E9 (Q3 (.done n))
 ·rw [y6 hroom] at hq9 ⊢;subst hq9;obtain⟨k1,Sn,Sl,k2,k3,k4,k5⟩:=hrow H.fell (by unfold A07;rw [y6 hroom]);exact⟨none,0,rfl,k1,Sn,no,k2,k3,fun y hy=>hy.elim,A28 _ _⟩
 ·rw [y7 hroom] at hq9 ⊢;subst hq9;obtain⟨k1,Sn,Sl,k2,k3,k4,k5⟩:=hrow (H.write (.done n) false) (by unfold A07;rw [y7 hroom]);exact⟨A2,c2,rfl,k1,Sn,Sl,k2,k3,k4,k5⟩
end Go.Proofs.YtefdfaeieekioaaGreatDoor
end
namespace Go.Proofs.YtefdfaeieekioaaGreatDoor
open Go.Vc Go.RowKit Go.Fl Go.ChangeShapes Go.WideShapes Go.ChangeAt
theorem B5g (done css:List (List Value)) (hd:Flat 2 done) (k s v:Value) (rest:List (List Value)) (i:Nat) (hi:done.length=i) (hcss:css=[k,s]::rest):((done++css).flatten).set (i*2+1) v=((done++[[k,v]])++rest).flatten:=by
 subst hcss;have hl:done.flatten.length=i*2:=by rw [hd.len,hi]
 rw [zr,List.set_append_right _ _ (by omega),hl,show i*2+1-i*2=1 from by omega];simp
theorem B07 (s:Stt) (h1:s.l.length<=100000) (h2:s.ms.length<=100000) (h3:∀ e∈s.l,e.vs.length<=100000) (cs:List Value) (S0:Nat->Prop) (w:World) (hs:RepS S0 w s cs):
  Calls Tryz.prog 54 #[.agg cs.toArray] w (B6w s no w):=by
 obtain⟨A,cap,css,B,cap',l0,l1,l2,l3,l4,rfl,el,hE,hR,hM⟩:=hs.shape;have hFE:=hE.flat;have hlE:=hE.len;refine vE Tryz.func54 ?_;have hc:=CtxF.start w no (fun _ h=>h.elim) (R:=fun _ _=>True) trivial Stab.true;refine hc.n fun g1 wg1 hg1 hc=>?_;refine hc.n fun g2 wg2 hg2 hc=>?_;refine Drawn.join (α:=Option Addr × Nat × Option Addr × Nat) (fun _=>[(1,.pointer (some ⟨g1,0,none⟩)),(2,.pointer (some ⟨g2,0,none⟩))])
  (fun z wS=>CtxF no w no wS [(g2,41,(lay.ty 41).zero),(g1,41,[.int .i64 s.seq,.slice z.1 s.l.length z.2.1,.slice z.2.2.1 s.ms.length z.2.2.2,.int .i64 l0,.int .i64 l1,.int .i64 l2,.int .i64 l3,.int .i64 l4])] [⟨101,3,z.2.2.1,s.ms.length,z.2.2.2,(s.ms.map F7).flatten⟩,⟨99,2,z.1,s.l.length,z.2.1,css.flatten⟩] (fun _ _=>True)) ?_ ?_
 ·refine vD (.Q [0,3] (.n 1 (.n 2 (.n 4 (.q 6 (.n 5 (.n 7 (.q 8 (.z 9)) .stop) .stop)) .stop) (.n 4 (.n 2 (.q 6 (.n 5 (.n 7 (.q 8 (.z 9)) .stop) .stop)) .stop) .stop)) (.n 4 (.n 1 (.n 2 (.q 6 (.n 5 (.n 7 (.q 8 (.z 9)) .stop) .stop)) .stop) .stop) .stop))) (fun _=>True) trivial ?_;have hc:=hc.drew;refine⟨?_,?_⟩
  ·skip
   refine⟨_,hc.cell 1 rfl _ rfl,trivial,?_⟩;refine⟨?_,?_⟩
   ·skip
    refine⟨(C4J A s.l.length cap css hFE hlE (by omega) S0 _ (hR.below hc.below)).mono fun en wq hq=>?_⟩;obtain⟨A1,c1,e1,hb,ho⟩:=hq;have hc:=hc.fresh hb ho;refine⟨_,e1,trivial,?_⟩;refine⟨⟨_,hc.cell 1 rfl _ rfl,trivial,?_⟩,trivial⟩;refine⟨⟨(Q1 B s.ms.length cap' (s.ms.map F7) (F9 _) (zj _) (by omega) S0 _ (hM.below hc.below)).mono fun en wq hq=>?_⟩,trivial⟩;obtain⟨A2,c2,e1,hb,ho⟩:=hq;have hc:=hc.fresh hb ho;refine⟨_,e1,trivial,?_⟩;refine⟨hc.s' 1 rfl fun wS hS hc=>?_,trivial⟩;refine hc.s 1 rfl fun wS hS hc=>?_;exact⟨(A1,c1,A2,c2),⟨rfl,rfl,trivial⟩,hc⟩
   refine⟨⟨_,hc.cell 1 rfl _ rfl,trivial,?_⟩,trivial⟩;refine⟨⟨(C4J A s.l.length cap css hFE hlE (by omega) S0 _ (hR.below hc.below)).mono fun en wq hq=>?_⟩,trivial⟩;obtain⟨A1,c1,e1,hb,ho⟩:=hq;have hc:=hc.fresh hb ho;refine⟨_,e1,trivial,?_⟩;refine⟨⟨(Q1 B s.ms.length cap' (s.ms.map F7) (F9 _) (zj _) (by omega) S0 _ (hM.below hc.below)).mono fun en wq hq=>?_⟩,trivial⟩;obtain⟨A2,c2,e1,hb,ho⟩:=hq;have hc:=hc.fresh hb ho;refine⟨_,e1,trivial,?_⟩;refine⟨hc.s' 1 rfl fun wS hS hc=>?_,trivial⟩;refine hc.s 1 rfl fun wS hS hc=>?_;exact⟨(A1,c1,A2,c2),⟨rfl,rfl,trivial⟩,hc⟩
  refine⟨⟨_,hc.cell 1 rfl _ rfl,trivial,?_⟩,trivial⟩;refine⟨⟨_,hc.cell 1 rfl _ rfl,trivial,?_⟩,trivial⟩;refine⟨⟨(C4J A s.l.length cap css hFE hlE (by omega) S0 _ (hR.below hc.below)).mono fun en wq hq=>?_⟩,trivial⟩;obtain⟨A1,c1,e1,hb,ho⟩:=hq;have hc:=hc.fresh hb ho;refine⟨_,e1,trivial,?_⟩;refine⟨⟨(Q1 B s.ms.length cap' (s.ms.map F7) (F9 _) (zj _) (by omega) S0 _ (hM.below hc.below)).mono fun en wq hq=>?_⟩,trivial⟩;obtain⟨A2,c2,e1,hb,ho⟩:=hq;have hc:=hc.fresh hb ho;refine⟨_,e1,trivial,?_⟩;refine⟨hc.s' 1 rfl fun wS hS hc=>?_,trivial⟩;refine hc.s 1 rfl fun wS hS hc=>?_;exact⟨(A1,c1,A2,c2),⟨rfl,rfl,trivial⟩,hc⟩
 clear hc;rintro⟨A1,c1,A2,c2⟩ u wS hc;simp only at hc;obtain⟨S1,_,hc⟩:=hc.told;have hc:=hc.now (X:=fun S w=>RepEs S w (s.l.take 0) []/\Row S w A2 s.ms.length c2 (s.ms.map F7).flatten) (fun h=>⟨rfl,h.2⟩) (Stab.and (fun _ _ _ _ h f=>h.map fun h=>h.fut f) (fun _ _ _ _ h f=>h.fut f));refine hc.c 1 rfl rfl ?_;cases hA:A1 with
 | none=>
  have h0:s.l.length=0:=(hc.fst.none' hA).1;refine⟨Unit,fun _=>[(1,.pointer (some ⟨g1,0,none⟩)),(2,.pointer (some ⟨g2,0,none⟩)),(14,.int .i64 s.l.length),(15,.int .i64 0)],fun _ w'=>w'=_,fun _ _=>0,(),⟨rfl,rfl,rfl,rfl,trivial⟩,rfl,?_⟩;rintro _ _ u rfl;refine df (show ¬ (0:Int)<(s.l.length:Int) by omega) ?_;refine hc.a 1 rfl rfl ?_;refine hc.s 0 rfl fun wS hS hc=>?_;refine hc.a 0 rfl rfl ?_;refine⟨_,rfl,hc.below,?_⟩;have hl:s.l=[]:=zn h0;have hu:=hc.out;subst hA;obtain⟨seq,l,ms,lows⟩:=s;simp only at hl el hu;subst hl;exact RepS.mk' el (css:=[]) rfl ⟨hc.fst.fit.1,hc.fst.fit.2,fun h=>absurd rfl h⟩ hu.2
 | some a=>
 obtain⟨g,cur,ea,hco,hcl,hct,hcn,hcm⟩:=hc.opened hA;clear hc;subst hA;cases ea;have hc:=hco;have hcl:cur.length=c1*2:=hcl;have hct:cur.take (s.l.length*2)=css.flatten:=hct;have hcn:s.l.length<=c1:=hcn;refine⟨Nat × List Value × List (List Value),fun y=>[(1,.pointer (some ⟨g1,0,none⟩)),(2,.pointer (some ⟨g2,0,none⟩)),(14,.int .i64 s.l.length),(15,.int .i64 y.1)],
  fun y w'=>y.1<=s.l.length/\y.2.1.length=c1*2/\y.2.2.length=y.1/\Flat 2 y.2.2/\y.2.1.take (s.l.length*2)=(y.2.2++css.drop y.1).flatten/\∃ S,CtxF no w S w' [(g,99,y.2.1),(g2,41,(lay.ty 41).zero),(g1,41,[.int .i64 s.seq,.slice (some ⟨g,0,none⟩) s.l.length c1,.slice A2 s.ms.length c2,.int .i64 l0,.int .i64 l1,.int .i64 l2,.int .i64 l3,.int .i64 l4])] [] (fun S w=>RepEs S w (s.l.take y.1) y.2.2/\Row S w A2 s.ms.length c2 (s.ms.map F7).flatten),
  fun y _=>s.l.length-y.1,(0,cur,[]),⟨rfl,rfl,rfl,rfl,trivial⟩,⟨zb _,hcl,rfl,(fun c hc=>by cases hc),hct,_,hc⟩,?_⟩
 clear hc hco hcl hct;rintro⟨i,cur,done⟩ w4 u ⟨hi,hcl,hdl,hdf,hct,S,hc⟩;simp only at hi hcl hdl hdf hct hc;by_cases hlt:i<s.l.length
 ·refine dt (by show (i:Int)<(s.l.length:Int);omega) ?_;have hrep:=hE.get i hlt (by omega);obtain⟨AV,cv,ecs,hV⟩:=hrep;have hvl:=h3 s.l[i] (List.getElem_mem hlt);have hdr:css.drop i=[.string s.l[i].key,.slice AV s.l[i].vs.length cv]::css.drop (i+1):=by rw [<-ecs];exact List.drop_eq_getElem_cons (by omega)
  have hcell:cur[i*2+1]?=some (.slice AV s.l[i].vs.length cv):=by
   have e1:(cur.take (s.l.length*2))[i*2+1]?=some (.slice AV s.l[i].vs.length cv):=by
    have hl:done.flatten.length=i*2:=by rw [hdf.len,hdl]
    rw [hct,hdr,zr,List.getElem?_append_right (by omega),hl,show i*2+1-i*2=1 from by omega];rfl
   rw [List.getElem?_take] at e1;split at e1
   ·exact e1
   ·cases e1
  generalize hx:s.l[i]=e at*;refine Drawn.join (α:=Option Addr × Nat) (fun _=>[(1,.pointer (some ⟨g1,0,none⟩)),(2,.pointer (some ⟨g2,0,none⟩)),(14,.int .i64 s.l.length),(15,.int .i64 i)])
   (fun z wS=>CtxF no w S wS [(g,99,C0 cur (i*2+1) [.slice z.1 e.vs.length z.2]),(g2,41,(lay.ty 41).zero),(g1,41,[.int .i64 s.seq,.slice (some ⟨g,0,none⟩) s.l.length c1,.slice A2 s.ms.length c2,.int .i64 l0,.int .i64 l1,.int .i64 l2,.int .i64 l3,.int .i64 l4])] [⟨147,3,z.1,e.vs.length,z.2,(e.vs.map K2).flatten⟩] (fun S w=>RepEs S w (s.l.take i) done/\Row S w A2 s.ms.length c2 (s.ms.map F7).flatten)) ?_ ?_
  ·refine vD (.Q [0,2,3,5] (.n 1 (.n 4 (.Q [6,7] (.n 8 (.n 9 (.Q [10,11] (.n 12 .fin .stop)) .stop) .stop)) .stop) (.n 4 (.Q [6,7] (.n 1 (.n 8 (.n 9 (.Q [10,11] (.n 12 .fin .stop)) .stop) .stop) (.n 8 (.n 1 (.n 9 (.Q [10,11] (.n 12 .fin .stop)) .stop) (.n 9 (.n 1 (.Q [10,11] (.n 12 .fin .stop)) .stop) .stop)) .stop))) .stop))) (fun _=>True) trivial ?_;have hc:=hc.drew;refine⟨?_,?_⟩
   ·skip
    refine⟨_,hc.cell 2 rfl _ rfl,trivial,?_⟩;refine⟨⟨_,hc.cell 2 rfl _ rfl,trivial,?_⟩,trivial⟩;refine⟨⟨by omega,by omega⟩,?_⟩;generalize hae:((⟨g,0,none⟩:Addr).add ((i:Int).toNat*2))=ae;have hae:(⟨g,i*2,none⟩:Addr)=ae:=by rw [<-hae,Addr.add_lit,zm,zh]
    subst hae;refine⟨⟨_,(hc.blk 0 rfl).cell (i*2+1) |>.trans hcell,trivial,?_⟩,trivial⟩;refine⟨⟨(J6 AV e.vs.length cv (e.vs.map K2) (I7 _) (zj _) (by omega) S0 _ (hV.below hc.below)).mono fun en wq hq=>?_⟩,trivial⟩;obtain⟨A3,c3,e1,hb,ho⟩:=hq;have hc:=hc.fresh hb ho;refine⟨_,e1,trivial,?_⟩;refine⟨⟨by omega,by omega⟩,?_⟩;generalize hae:((⟨g,0,none⟩:Addr).add ((i:Int).toNat*2))=ae;have hae:(⟨g,i*2,none⟩:Addr)=ae:=by rw [<-hae,Addr.add_lit,zm,zh]
    subst hae;refine⟨⟨hc.may 0 rfl (i*2+1) [.slice A3 e.vs.length c3] (by show i*2+1+1<=cur.length;omega) rfl,?_⟩,trivial⟩;intro wS hS;have hS:D0 _ ⟨g,i*2+1,none⟩ [.slice A3 e.vs.length c3] wS:=hS;have hc:=(hc.set 0 rfl hS).1;refine⟨trivial,?_⟩;exact⟨(A3,c3),⟨rfl,rfl,rfl,rfl,trivial⟩,hc⟩
   refine⟨⟨_,hc.cell 2 rfl _ rfl,trivial,?_⟩,trivial⟩;refine⟨⟨by omega,by omega⟩,?_⟩;generalize hae:((⟨g,0,none⟩:Addr).add ((i:Int).toNat*2))=ae;have hae:(⟨g,i*2,none⟩:Addr)=ae:=by rw [<-hae,Addr.add_lit,zm,zh]
   subst hae;refine⟨?_,?_⟩
   ·skip
    refine⟨_,hc.cell 2 rfl _ rfl,trivial,?_⟩;refine⟨⟨_,(hc.blk 0 rfl).cell (i*2+1) |>.trans hcell,trivial,?_⟩,trivial⟩;refine⟨⟨(J6 AV e.vs.length cv (e.vs.map K2) (I7 _) (zj _) (by omega) S0 _ (hV.below hc.below)).mono fun en wq hq=>?_⟩,trivial⟩;obtain⟨A3,c3,e1,hb,ho⟩:=hq;have hc:=hc.fresh hb ho;refine⟨_,e1,trivial,?_⟩;refine⟨⟨by omega,by omega⟩,?_⟩;generalize hae:((⟨g,0,none⟩:Addr).add ((i:Int).toNat*2))=ae;have hae:(⟨g,i*2,none⟩:Addr)=ae:=by rw [<-hae,Addr.add_lit,zm,zh]
    subst hae;refine⟨⟨hc.may 0 rfl (i*2+1) [.slice A3 e.vs.length c3] (by show i*2+1+1<=cur.length;omega) rfl,?_⟩,trivial⟩;intro wS hS;have hS:D0 _ ⟨g,i*2+1,none⟩ [.slice A3 e.vs.length c3] wS:=hS;have hc:=(hc.set 0 rfl hS).1;refine⟨trivial,?_⟩;exact⟨(A3,c3),⟨rfl,rfl,rfl,rfl,trivial⟩,hc⟩
   refine⟨⟨_,(hc.blk 0 rfl).cell (i*2+1) |>.trans hcell,trivial,?_⟩,trivial⟩;refine⟨?_,?_⟩
   ·skip
    refine⟨_,hc.cell 2 rfl _ rfl,trivial,?_⟩;refine⟨⟨(J6 AV e.vs.length cv (e.vs.map K2) (I7 _) (zj _) (by omega) S0 _ (hV.below hc.below)).mono fun en wq hq=>?_⟩,trivial⟩;obtain⟨A3,c3,e1,hb,ho⟩:=hq;have hc:=hc.fresh hb ho;refine⟨_,e1,trivial,?_⟩;refine⟨⟨by omega,by omega⟩,?_⟩;generalize hae:((⟨g,0,none⟩:Addr).add ((i:Int).toNat*2))=ae;have hae:(⟨g,i*2,none⟩:Addr)=ae:=by rw [<-hae,Addr.add_lit,zm,zh]
    subst hae;refine⟨⟨hc.may 0 rfl (i*2+1) [.slice A3 e.vs.length c3] (by show i*2+1+1<=cur.length;omega) rfl,?_⟩,trivial⟩;intro wS hS;have hS:D0 _ ⟨g,i*2+1,none⟩ [.slice A3 e.vs.length c3] wS:=hS;have hc:=(hc.set 0 rfl hS).1;refine⟨trivial,?_⟩;exact⟨(A3,c3),⟨rfl,rfl,rfl,rfl,trivial⟩,hc⟩
   refine⟨⟨(J6 AV e.vs.length cv (e.vs.map K2) (I7 _) (zj _) (by omega) S0 _ (hV.below hc.below)).mono fun en wq hq=>?_⟩,trivial⟩;obtain⟨A3,c3,e1,hb,ho⟩:=hq;have hc:=hc.fresh hb ho;refine⟨_,e1,trivial,?_⟩;refine⟨⟨_,hc.cell 2 rfl _ rfl,trivial,?_⟩,trivial⟩;refine⟨⟨by omega,by omega⟩,?_⟩;generalize hae:((⟨g,0,none⟩:Addr).add ((i:Int).toNat*2))=ae;have hae:(⟨g,i*2,none⟩:Addr)=ae:=by rw [<-hae,Addr.add_lit,zm,zh]
   subst hae;refine⟨⟨hc.may 0 rfl (i*2+1) [.slice A3 e.vs.length c3] (by show i*2+1+1<=cur.length;omega) rfl,?_⟩,trivial⟩;intro wS hS;have hS:D0 _ ⟨g,i*2+1,none⟩ [.slice A3 e.vs.length c3] wS:=hS;have hc:=(hc.set 0 rfl hS).1;refine⟨trivial,?_⟩;exact⟨(A3,c3),⟨rfl,rfl,rfl,rfl,trivial⟩,hc⟩
  clear hc;rintro⟨A3,c3⟩ u2 w5 hc;simp only at hc;obtain⟨S2,_,hc⟩:=hc.told;have et:s.l.take (i+1)=s.l.take i++[e]:=by rw [List.take_add_one,List.getElem?_eq_getElem hlt,hx];rfl
  refine⟨(i+1,C0 cur (i*2+1) [.slice A3 e.vs.length c3],done++[[Value.string e.key,Value.slice A3 e.vs.length c3]]),⟨rfl,rfl,rfl,y5 _ (C3 (by omega)),trivial⟩,⟨hlt,?_,?_,?_,?_,S2,?_⟩,by show s.l.length-(i+1)<s.l.length-i;omega⟩
  ·show (C0 cur (i*2+1) [.slice A3 e.vs.length c3]).length=c1*2;rw [putAt_len,hcl]
  ·show (done++[_]).length=i+1;rw [z6,hdl];rfl
  ·exact hdf.append (fun c hc=>by rw [List.mem_singleton.1 hc];exact⟨rfl,rfl⟩)
  ·show (cur.set (i*2+1) (.slice A3 e.vs.length c3)).take (s.l.length*2)=((done++[[Value.string e.key,Value.slice A3 e.vs.length c3]])++css.drop (i+1)).flatten;rw [List.take_set,hct];exact B5g done (css.drop i) hdf _ _ _ _ i hdl hdr
  ·show CtxF no w S2 w5 _ [] (fun S w=>RepEs S w (s.l.take (i+1)) (done++[_])/\_);rw [et];exact hc.now (fun h=>⟨h.1.1.append ⟨_,_,rfl,⟨A3,c3,rfl,h.2⟩,rfl⟩,h.1.2⟩) (Stab.and (fun _ _ _ _ h f=>h.map fun h=>h.fut f) (fun _ _ _ _ h f=>h.fut f))
 ·refine df (by show ¬ (i:Int)<(s.l.length:Int);omega) ?_;have hi:i=s.l.length:=by omega
  subst hi;have hcd:css.drop s.l.length=[]:=zq (by omega);rw [hcd,zw] at hct;rw [List.take_length] at hc;refine hc.a 2 rfl rfl ?_;refine hc.s 1 rfl fun wS hS hc=>?_;refine hc.a 1 rfl rfl ?_;have hc:=hc.closed 2 s.l.length c1 hcn hcm hcl;rw [hct] at hc;obtain⟨S2,_,hc⟩:=hc.told;have hu:=hc.out;refine⟨_,rfl,hc.below,?_⟩;exact RepS.mk' el hu.1.1 hu.2 hu.1.2
theorem B3G {s:Stt} (h:T5 s=true):s.l.length<=100000/\s.ms.length<=100000/\∀ e∈s.l,e.vs.length<=100000:=by obtain⟨_,⟨a3,a4⟩,a5,_,_⟩:=C5.1 h;have he:=((K3 _ _ _).1 a5).1;exact⟨by omega,by omega,fun e hm=>by have:=(E1.1 (he e hm).1).2.2.2;omega⟩
theorem A0S (gs gj gc b:Nat) (H:Sh) (h:H.Ok) (S:Nat->Prop) (w:World) (hK:ShelfK gs gj gc b H S w):Calls Tryz.prog 23 #[.pointer (some ⟨gs,0,none⟩)] w (B6w H.k.b no w):=by
 obtain⟨x,A,cap,hO⟩:=hK;have hR:=(hO.left yc).1;obtain⟨f1,f2,f3⟩:=B3G h.k.may;have hB:=hO.2.1;refine vE Tryz.func23 ?_;have hc:=CtxF.start w no (fun _ h=>h.elim) (R:=fun _ _=>True) trivial Stab.true;refine hc.n fun g2 wg2 hg2 hc=>?_;refine⟨.bool false,fun w=>A8h gs _ _ w,?_⟩;refine⟨stX H.k.b x,rfl,B5 (hB.of_eq (hc.below.block _ hB.lt)) 1 _ 0 (fun j v hj=>?_),?_⟩
 ·match j,hj with
  | 0,hj=>exact hj
  | 1,hj=>exact hj
  | 2,hj=>exact hj
  | 3,hj=>exact hj
  | 4,hj=>exact hj
  | 5,hj=>exact hj
  | 6,hj=>exact hj
  | 7,hj=>exact hj
 refine⟨(B07 H.k.b f1 f2 f3 (stX H.k.b x) S _ (hR.below hc.below)).mono fun en wq hq=>?_⟩;obtain⟨cs,e1,hb,hrep⟩:=hq;obtain⟨xS,rfl⟩:=hrep.stX;have hc:=(hc.call hb).1.know (X:=fun S w=>RepS S w H.k.b (stX H.k.b xS)) (hrep.map fun h=>h.sub fun b hb2=>hb2.elim (fun h=>h.elim) .inr) (A7S _ _);refine⟨_,e1,?_⟩;refine hc.s 0 rfl fun wS hS hc=>?_;refine hc.a 0 rfl rfl ?_;exact⟨_,rfl,hc.below,hc.out.2⟩
def B9K (H:Sh) (k:Known):Int:=if H.room<E9 ⟨(A6P k).toArray⟩ then 7 else 0
def B9L (H:Sh) (k:Known):Sh:=if H.room<E9 ⟨(A6P k).toArray⟩ then H.fell else H.lay k
def B68 (H:Sh) (b:Stt) (p:List D):Sh × Int:=
 if H.down then (H,7) else if p.any B64=true\/T5 b=false\/60<p.length\/E3-p.length<b.seq then (H,1)
 else (B9L H ⟨b,p,H.k.ep,H.k.ep⟩,B9K H ⟨b,p,H.k.ep,H.k.ep⟩)
def H0 (tot:Int):Sh:=⟨tot,bE,Known0,[],0,true,false⟩
theorem H0.txt (tot:Int):(H0 tot).txt=J2 bE:=by show J2 bE++[]=_;rw [zw]
theorem H0.room (tot:Int):(H0 tot).room=tot-11:=by unfold Sh.room;rw [H0.txt];show tot-E9 bE=_;rw [V6]
theorem H0.ok {tot:Int} (h:11<=tot/\tot<=1048576):(H0 tot).Ok:=
 ⟨.inl ⟨rfl,rfl⟩,trivial,zc _,h.2,by rw [H0.room];omega⟩
theorem H0.jour (tot:Int):B5e (tot-E9 bE) ⟨I0 bE,E9 bE,true⟩ bE [] 11=(H0 tot).jour:=by
 have hs:=W5 bE;rw [V6] at hs;have e1:(H0 tot).scr=⟨I0 bE,E9 bE,true⟩:=by have e3:(H0 tot).texts.take (1+(H0 tot).np)=(H0 tot).texts:=rfl;show Scroll.mk ⟨(H0 tot).txt.toArray⟩ ((D6 ((H0 tot).texts.take (1+(H0 tot).np))).length:Nat) true=_;rw [e3,show D6 (H0 tot).texts=(H0 tot).txt from rfl,H0.txt];rfl
 unfold B5e;rw [y7 (by show ¬ ((11:Nat):Int)<((I0 bE).size:Int);omega)];unfold Sh.jour;rw [e1,H0.room,V6];rfl
theorem B5h {n:Int} (h:0<=n/\n<=1048576):B8H n=c0 n:=by unfold B8H c0;congr 1;split<;>split<;>omega
def B8x:ByteArray:=⟨#[111,110,101]⟩
def B9M:ByteArray:=⟨#[116,119,111]⟩
def q0:Scroll:=⟨I0 bE,11,true⟩
def q1:Scroll:=⟨I0 bE++I0 B8x,25,true⟩
def q2:Scroll:=⟨(I0 bE++I0 B8x)++I0 B9M,25,true⟩
def q3:Scroll:=⟨q2.s.extract 0 25,25,true⟩
def q4:Scroll:=⟨q2.s.extract 0 30,30,true⟩
def b8d:D:=⟨1,⟨#[107]⟩,⟨#[118]⟩,0,0,⟨#[]⟩,4294967297,0⟩
def G0:Sh:=H0 1048576
def G1:Sh:=G0.write (.enter 3) true
def G2:Sh:=G1.write (.add b8d) true
end Go.Proofs.YtefdfaeieekioaaGreatDoor
namespace Go.Proofs.YtefdfaeieekioaaGreatDoor
open Go.Vc Go.RowKit Go.Fl
structure Fit (H:Sh) (n:Nat):Prop where
 ok:H.Ok
 down:H.down=false
 tot:H.tot=1048576
 len:H.txt.length<=271000+1200*n
theorem Fit.mono {H:Sh} {n m:Nat} (h:Fit H n) (hm:n<=m):Fit H m:=⟨h.ok,h.down,h.tot,zo h.len (by omega)⟩
theorem Fit.room {H:Sh} {n:Nat} (h:Fit H n) (hn:n<=400):290000<=H.room:=by have h1:=h.len;have h2:=h.tot;unfold Sh.room;omega
theorem Fit.h0:Fit (H0 1048576) 0:=⟨H0.ok (by decide),rfl,rfl,by rw [H0.txt];have h1:=V6;unfold E9 at h1;omega⟩
theorem A3z {r:Rc} (h:r.Ok):E9 (Q3 r)<=1130:=by have h1:=A0N h;have h2:=(A3u (Q3 r) (by omega)).2;omega
theorem Fit.write {H:Sh} {n:Nat} (h:Fit H n) (hn:n<=400) {r:Rc} (hr:r.Ok) (hc:B2B H.k r) (p:Bool):Fit (H.write r p) (n+1):=by have h1:=A3z hr;have h2:=h.room hn;refine⟨h.ok.write hr hc p (by omega),h.down,h.tot,?_⟩;rw [Sh.write_txt,z6];have h3:=h.len;unfold E9 at h1;omega
theorem Fit.record {H:Sh} {n:Nat} (h:Fit H n) (hn:n<=400) {r:Rc} (hr:r.Ok) (p:Bool):A9M H r=0/\A07 H r p=H.write r p:=by have h1:=A3z hr;have h2:=h.room hn;unfold A9M A07;rw [y7 (by omega),y7 (by omega)];exact⟨rfl,rfl⟩
theorem Fit.add {H:Sh} {n:Nat} (h:Fit H n) (hn:n<=400) {d:D} (hd:d.Ok):
  (L3 d=true/\B2B H.k (.add d)/\M8 H d=(H.write (.add d) true,0))\/(L3 d=true/\¬ B2B H.k (.add d)/\M8 H d=(H,5))\/(L3 d=false/\M8 H d=(H,1)):=by
 unfold M8;rw [h.down,y7 (by decide)];cases hm:L3 d with
 | false=>
  refine .inr (.inr ⟨rfl,?_⟩);have e:U1 H.k d=1:=by unfold U1;rw [hm];rfl
  rw [e,y7 (by decide)]
 | true=>
  by_cases hc:60<=H.k.pend.length\/E3<=H.k.seq
  ·have e:U1 H.k d=5:=by unfold U1;rw [hm,y6 rfl,y6 hc]
   refine .inr (.inl ⟨rfl,fun hcan=>?_,?_⟩)
   ·obtain⟨a,b⟩:=hcan;omega
   ·rw [e,y7 (by decide)]
  ·have e:U1 H.k d=0:=by unfold U1;rw [hm,y6 rfl,y7 hc]
   obtain⟨h1,h2⟩:=h.record hn (r:=.add d) ⟨hm,hd⟩ true;refine .inl ⟨rfl,⟨by omega,by omega⟩,?_⟩;rw [y6 e,h1,h2]
theorem A2K (H:Sh) (d:D) (p:Bool):(H.write (.add d) p).k=⟨H.k.b,H.k.pend++[d],H.k.ep,H.k.ln⟩:=Sh.write_k _ _ _
theorem A5V (H:Sh) (n:Int) (p:Bool):(H.write (.done n) p).k=(C2 H.k n).1:=Sh.write_k _ _ _
theorem A30 (H:Sh) (n:Int) (p:Bool):(H.write (.enter n) p).k=⟨H.k.b,H.k.pend,max H.k.ep n,H.k.ln⟩:=Sh.write_k _ _ _
theorem Fit.commit {H:Sh} {n:Nat} (h:Fit H n) (hn:n<=400) {m:Int} (hm:B3 m):
  (H.k.seq<m/\E2 H m=(H,[],4))\/(m<=H.k.seq/\(C2 H.k m).2=[]/\E2 H m=(H,[],0)/\(C2 H.k m).1=H.k)\/(m<=H.k.seq/\E2 H m=(H.write (.done m) false,(C2 H.k m).2,0)):=by
 unfold E2;rw [h.down,y7 (by decide)];by_cases h1:H.k.seq<m
 ·rw [y6 h1];exact .inl ⟨h1,rfl⟩
 rw [y7 h1];by_cases h2:(C2 H.k m).2.length=0
 ·rw [y6 h2];have h3:=zn h2;refine .inr (.inl ⟨by omega,h3,rfl,?_⟩);have e:(A4V H.k.b (H.k.pend.take (m-H.k.b.seq).toNat)).length=0:=h2;rw [A1P] at e;have e2:=zn e;have e3:H.k.pend.drop (m-H.k.b.seq).toNat=H.k.pend:=by have:=List.take_append_drop (m-H.k.b.seq).toNat H.k.pend;rw [e2,List.nil_append] at this;exact this
  unfold C2;rw [e2,e3];rfl
 ·rw [y7 h2];have h3:=A3z (r:=.done m) hm;have h4:=h.room hn;rw [y7 (by omega)];exact .inr (.inr ⟨by omega,rfl⟩)
theorem Fit.done {H:Sh} {n:Nat} (h:Fit H n) (hn:n<=400) {m:Int} (hm:B3 m) (hs:m<=H.k.seq):
  ∃ H',E2 H m=(H',(C2 H.k m).2,0)/\H'.k=(C2 H.k m).1/\Fit H' (n+1)/\(H'=H\/H'=H.write (.done m) false):=by
 rcases h.commit hn hm with ⟨h1,_⟩ | ⟨_,h2,h3,h4⟩ | ⟨_,h2⟩
 ·omega
 ·exact⟨H,by rw [h3,h2],h4.symm,h.mono (by omega),.inl rfl⟩
 ·exact⟨_,h2,A5V H m false,h.write hn (r:=.done m) hm hs false,.inr rfl⟩
theorem A3F (k:Known) (m:Int):(C2 k m).2.length=min (m-k.b.seq).toNat k.pend.length/\(C2 k m).1.pend.length=k.pend.length-(m-k.b.seq).toNat:=by unfold C2;rw [A1P,zf];exact⟨rfl,zg ..⟩
end Go.Proofs.YtefdfaeieekioaaGreatDoor
section
namespace Go.Proofs.YtefdfaeieekioaaGreatDoor
open Go.Vc Go.RowKit Go.Fl Go.ChangeShapes Go.WideShapes Go.ChangeAt
theorem RowD8.elem {S:Nat->Prop} {w:World} {A:Option Addr} {n cap:Nat} {l:List D} (hR:Row S w A n cap (l.map dC).flatten) (i:Nat) (hi:i<l.length):∃ ad,A=some ad/\Go.Vc.cellsAt w (ad.add (i*8)) (dC l[i]) 0:=by obtain⟨ad,e,h⟩:=Row.elemF hR (k:=8) (by decide) (Flat.map dC (fun d=>⟨rfl,rfl⟩) l) i (by rw [zj];exact hi);rw [List.getElem_map] at h;exact⟨ad,e,h⟩
theorem RowR8.elem {S:Nat->Prop} {w:World} {A:Option Addr} {n cap:Nat} {l:List Res} (hR:Row S w A n cap (l.map X8).flatten) (i:Nat) (hi:i<l.length):∃ ad,A=some ad/\Go.Vc.cellsAt w (ad.add (i*2)) (X8 l[i]) 0:=by obtain⟨ad,e,h⟩:=Row.elemF hR (k:=2) (by decide) (Flat.map X8 (fun d=>⟨rfl,rfl⟩) l) i (by rw [zj];exact hi);rw [List.getElem_map] at h;exact⟨ad,e,h⟩
theorem RowD8.drop {S:Nat->Prop} {w:World} {A:Option Addr} {cap:Nat} {l:List D} (hR:Row S w A l.length cap (l.map dC).flatten) (i:Nat) (hi:i<=l.length):Row S w (A.map (·.add (i*8))) (l.length-i) (cap-i) ((l.drop i).map dC).flatten:=by
 obtain⟨h1,h2,h3⟩:=hR;refine⟨by omega,by omega,fun hx=>?_⟩;have hfl:∀ m:List D,((m.map dC).flatten).length=m.length*8:=fun m=>by
  induction m with
  | nil=>rfl
  | cons d r ih=>rw [List.map_cons,List.flatten_cons,z6,ih,zi];show 8+_=_;omega
 have hne:(l.map dC).flatten≠[]:=fun h=>by
  have e1:=hfl l;rw [h] at e1;have e2:(l.drop i)=[]:=by
   have:l.length=0:=by have e1:0=l.length*8:=e1;omega
   rw [zn this,List.drop_nil]
  rw [e2] at hx;exact hx rfl
 obtain⟨a,rfl,hs,hc⟩:=h3 hne;refine⟨a.add (i*8),rfl,by rw [K8];exact hs,fun j u hu=>?_⟩;have e3:(l.map dC).flatten=((l.take i).map dC).flatten++((l.drop i).map dC).flatten:=by rw [<-zr,<-List.map_append,List.take_append_drop]
 have e4:=hc (i*8+j) u (by rw [e3,List.getElem?_append_right (by rw [hfl,zf];omega),hfl,zf,show i*8+j-min i l.length*8=j from by rw [Nat.min_eq_left hi];omega];exact hu);rw [Go.Vc.add_add];exact e4
theorem RowD8.sub {S:Nat->Prop} {w:World} {C:Option Addr} {cc:Nat} {all:List D} (hR:Row S w C all.length cc (all.map dC).flatten) (m:Nat) (hm:m<=all.length):Row S w (if (cc:Int)=(m:Int) then C else C.map (·.add ((m:Int).toNat*8))) (all.drop m).length (cc-m) ((all.drop m).map dC).flatten:=by
 have h1:=hR.1;have h2:=hR.2.1;by_cases he:cc=m
 ·have e:all.drop m=[]:=zq (by omega);rw [e];exact⟨zb _,by omega,fun h=>absurd rfl h⟩
 ·rw [y7 (by omega),zh,zg];exact RowD8.drop hR m hm
section
variable {H:Type} {enc:TypeId × Value->H} {W:World} {sp:Nat->Bool} {hd:Bool} {v:Value} {d:DataW H} {p:List MemPlace} {base:Nat}
end
theorem Fit.enter {H:Sh} {n:Nat} (h:Fit H n) (hn:n<=400) {m:Int} (hm:B3 m):
  (m<=H.k.ep/\enterH H m=(H,12))\/(H.k.ep<m/\enterH H m=(H.write (.enter m) true,0)):=by
 unfold enterH;rw [h.down,y7 (by decide)];by_cases h1:m<=H.k.ep
 ·rw [y6 h1];exact .inl ⟨h1,rfl⟩
 rw [y7 h1];obtain⟨h2,h3⟩:=h.record hn (r:=.enter m) hm true;rw [h2,h3];exact .inr ⟨by omega,rfl⟩
end Go.Proofs.YtefdfaeieekioaaGreatDoor
end
namespace Go.Proofs.YtefdfaeieekioaaGreatDoor
open Go.Vc Go.RowKit Go.Fl Go.ChangeShapes Go.WideShapes Go.ChangeAt
theorem Blk.part {w:World} {g T:Nat} {cs:List Value} (h:Blk w g T cs) (o:Nat) (xs:List Value) (hx:(cs.drop o).take xs.length=xs):Go.Vc.cellsAt w ⟨g,o,none⟩ xs 0:=B5 h o xs 0 fun j u hj=>by
 rw [Nat.add_zero,<-List.getElem?_drop];rw [<-hx,List.getElem?_take] at hj;split at hj
 ·exact hj
 ·cases hj
structure Wd.Bare (v:Wd):Prop where
 deeds:∀ d∈v.deeds,d.Ok
 key:∀ e∈v.st.l,X6 e.key
 five:v.st.lows.length=5
theorem Wd.Ok.bare {v:Wd} (h:v.Ok):v.Bare:=⟨h.deeds,fun e he=>(h.st.l e he).key,h.five⟩
structure WdO (n0:Nat) (v:Wd) (x:WX) (N:Nat->Prop) (w:World):Prop where
 ros:w.ownsRow n0 3 1 (.slice x.A v.ros.l.length x.cA) v.ros.l.length (A1F v.ros.l)
 deeds:w.ownsRow n0 45 8 (.slice x.B v.deeds.length x.cB) v.deeds.length (v.deeds.map dC).flatten
 two:∀ a b,x.A=some a->x.B=some b->a.block≠b.block
 st:RepS N w v.st (stX v.st x.y)
 new:∀ y,N y->n0<=y/\y<w.heap.size
 outA:∀ a,x.A=some a->¬ N a.block
 outB:∀ a,x.B=some a->¬ N a.block
theorem WdO.zero (n0:Nat) (w:World):WdO n0 Wd0 WX0 no w:=⟨World.ownsRow_nil ..,World.ownsRow_nil ..,(fun a b h=>by cases h),(A6S no w).2,fun y h=>h.elim,fun a h=>(by cases h),fun a h=>(by cases h)⟩
end Go.Proofs.YtefdfaeieekioaaGreatDoor
namespace Go.Proofs.YtefdfaeieekioaaGreatDoor
open Go.Vc Go.RowKit Go.Fl
structure Lk where
 id:Int
 H:Sh
 r:Ros
 til:Int
 done:List Wd
def Lk.k (L:Lk):Known:=L.H.k
def B08 (kind to seq req:Int) (res:Res):Wd:=⟨kind,0,to,0,seq,req,0,res,Ros0,[],A4z⟩
structure Thin (v:Wd):Prop where
 ros:v.ros=Ros0
 deeds:v.deeds=[]
 st:v.st=A4z
def r00:Res:=⟨0,0⟩
def A1G (L:Lk) (v:Wd):Wd:={ v with frm:=L.id,ep:=L.r.ep }
def Z1 (L:Lk) (v:Wd):Lk:=if S6 v.req=L.id then { L with done:=L.done++[v] } else L
def A1H (L:Lk):Bool:=A2q L.r.l==L.id
def Z2 (L:Lk):Bool:=!(L.r.new==L.id)||L.H.k.ln==L.r.ep
def H6 (L:Lk) (now:Int):Bool:=decide (L.id∈L.r.l)&&(Z2 L&&(decide (now<=L.til)&&(!L.H.down&&L.H.k.ep==L.r.ep)))
def B5i (req:Int) (r:Res):Wd:=B08 7 (S6 req) 0 req r
def A5W (L:Lk) (v:Wd):Lk × List Wd:=if v.to=L.id then (Z1 L (A1G L v),[]) else (L,[A1G L v])
def toldL (L:Lk) (req:Int) (r:Res):Lk × List Wd:=A5W L (B5i req r)
def B8 (L:Lk):List (Int × Res)->Lk × List Wd
 | []=>(L,[])
 | (q,r)::t=>((B8 (toldL L q r).1 t).1,(toldL L q r).2++(B8 (toldL L q r).1 t).2)
def F8 (L:Lk) (n:Int):Lk:={ L with H:=(E2 L.H n).1 }
def K6 (L:Lk):Lk × List Wd:=B8 (F8 L L.k.seq) ((L.k.pend.map fun d=>d.req).zip (E2 L.H L.k.seq).2.1)
def A1I (L:Lk):Int:=A5O L.r.l L.id
def V7 (L:Lk):Int:=A04 L.r.l L.id
def A2L (L:Lk) (q:Int):Wd:=⟨4,0,A1I L,0,q,0,0,r00,Ros0,(L.k.pend.drop (q-L.k.b.seq).toNat).take 6,A4z⟩
def A31 (L:Lk) (q:Int):List Wd:=[A1G L (A2L L q)]
def E4 (L:Lk) (v:Wd):List Wd:=if V7 L=0 then [] else [A1G L { v with to:=V7 L }]
def onL (L:Lk) (q:Int):Lk × List Wd:=if A1H L=true then K6 L else (L,A31 L q)
def B09 (L:Lk) (v:Wd):Lk × List Wd:=
 if B8J L.r.l≠L.id then (L,[]) else match v.deeds with
 | [d]=>if (B6t L.k.b d.req).2=true then toldL L d.req (B6t L.k.b d.req).1
  else if L.k.pend.any (fun x=>x.req==d.req)=true then (L,[])
  else if (M8 L.H d).2≠0 then ({ L with H:=(M8 L.H d).1 },[]) else onL { L with H:=(M8 L.H d).1 } L.k.seq
 | _=>(L,[])
def A0T (H:Sh):List D->Sh
 | []=>H
 | d::t=>if (M8 H d).2≠0 then (M8 H d).1 else A0T (M8 H d).1 t
def B3H (L:Lk) (l:List D):Lk:={ L with H:=A0T L.H l }
def A5X (q:Int):Wd:=B08 6 0 q 0 r00
def A8k (q r:Int):Wd:=B08 5 0 q r r00
def A2M (L:Lk) (was q:Int):List Wd:=if A1H L=true then E4 L (A5X L.k.seq) else if L.k.seq=was/\q<L.k.b.seq then E4 L (A5X L.k.b.seq) else []
def A32 (L:Lk) (v:Wd):Lk × List Wd:=
 if V7 L=0\/v.frm≠V7 L then (L,[]) else if L.k.seq<v.seq then (L,E4 L (A8k L.k.seq 0)) else
 let L1:=B3H L (v.deeds.drop (min (L.k.seq-v.seq) v.deeds.length).toNat);let p:=if L.k.seq<L1.k.seq then onL L1 L.k.seq else (L1,[])
 (p.1,p.2++A2M p.1 L.k.seq v.seq)
def B69 (L:Lk):Wd:=⟨10,0,A1I L,0,L.k.seq,0,0,r00,Ros0,L.k.pend,L.k.b⟩
def B5j (L:Lk) (v:Wd):List Wd:=
 if A1I L=0\/v.frm≠A1I L then [] else if v.req=1/\A1I L=L.r.new then [A1G L (B69 L)] else if L.k.b.seq<=v.seq/\v.seq<L.k.seq then A31 L v.seq else []
def B4X (L:Lk) (v:Wd):Lk × List Wd:=
 if A1I L=0\/v.frm≠A1I L then (L,[]) else
 let L1:=F8 L (min v.seq L.k.seq)
 (L1,if L.k.b.seq<L1.k.b.seq then E4 L1 (A5X L1.k.b.seq) else [])
def B8M:Wd:=B08 11 0 0 0 r00
def B5k (L:Lk) (v:Wd) (now:Int):Lk × List Wd:=
 if L.r.new≠L.id\/v.frm≠V7 L\/Z2 L=true\/L.til<now then (L,[]) else
 let p:=B68 L.H v.st v.deeds
 if p.2≠0 then ({ L with H:=p.1 },[]) else
 let L1:={ L with H:=p.1 };let L2:=F8 L1 L1.k.seq
 (L2,A1G L2 B8M::E4 L2 (A5X L2.k.seq))
def B7A (L:Lk) (to req:Int):Wd:=B08 9 to L.k.b.seq req r00
def T7 (L:Lk) (v:Wd) (now:Int):Lk × List Wd:=
 if v.kind=7 then (Z1 L v,[]) else if v.ep≠L.r.ep\/L.r.ep=0 then (L,[]) else if v.kind=10 then B5k L v now
 else if v.kind=9 then (if v.frm=A2q L.r.l then Z1 (F8 L (min v.seq L.k.seq)) v else L,[])
 else if H6 L now=false then (L,[]) else if v.kind=3 then B09 L v else if v.kind=4 then A32 L v else if v.kind=5 then (L,B5j L v) else if v.kind=6 then B4X L v
 else if v.kind=8 then (L,if v.frm∈L.r.l/\A1H L=true then [A1G L (B7A L v.frm v.req)] else []) else (L,[])
def A0U (L:Lk) (v:Wd):Lk:={ L with H:=(enterH L.H v.ros.ep).1,til:=0 }
def A33 (L:Lk) (v:Wd) (now:Int):Lk × List Wd:=
 let L1:={ L with r:=v.ros,til:=max L.til v.til }
 if H6 L1 now=true/\A1H L1=true then K6 L1 else (L1,[])
def A2N (L:Lk) (v:Wd) (now:Int):Lk × List Wd:=
 if v.frm≠0\/L.id ∉ v.ros.l\/v.ros.ep<L.k.ep then (L,[])
 else if L.k.ep<v.ros.ep then (if (enterH L.H v.ros.ep).2≠0 then ({ L with H:=(enterH L.H v.ros.ep).1 },[]) else A33 (A0U L v) v now)
 else A33 L v now
def B9Y (L:Lk) (v:Wd) (now:Int):Lk × List Wd:=
 if v.to≠L.id\/A51 v=false then (L,[]) else if v.kind=2 then A2N L v now else T7 L v now
def C3m (L:Lk) (d:D):Wd:=A1G L ⟨3,0,B8J L.r.l,0,0,0,0,r00,Ros0,[d],A4z⟩
def C3q (L:Lk) (d:D) (now:Int):Lk × List Wd:=
 if L.r.ep=0\/L3 d=false then (L,[]) else if B8J L.r.l=L.id then T7 L (C3m L d) now else (L,[C3m L d])
def C0J:Wd:=B08 1 0 0 0 r00
def B93 (L:Lk) (now:Int):Bool:=decide (L.id∈L.r.l)&&decide (now<=L.til)
def B9t (L:Lk) (now:Int):List Wd:=
 if L.H.down=true then [] else
 [A1G L C0J]++(if B93 L now=true/\Z2 L=false then E4 L (A8k 0 1) else if B93 L now=true/\L.r.new=L.id then [A1G L B8M] else [])
 ++ (if H6 L now=false then [] else (if A1H L=false/\0<L.k.pend.length then A31 L L.k.b.seq else [])++(if A1H L=true then E4 L (A5X L.k.seq) else []))
def readyL (L:Lk) (key:ByteArray) (now:Int):Bool:=H6 L now&&!L.k.pend.any fun d=>D3 key ⟨#[]⟩||D3 d.key key
theorem B1A {l:List Int} {n:Int} (hn:n≠0):A04 l n≠n:=by
 unfold A04 atI L9;cases h:A0P l n with
 | none=>
  rw [y6 (.inl (by show (-1:Int)-1<0;decide))];exact fun e=>hn e.symm
 | some i=>
  obtain⟨hi,e1,h2⟩:=A0Q h;show (if ((i:Nat):Int)-1<0\/(l.length:Int)<=((i:Nat):Int)-1 then 0 else l.getD (((i:Nat):Int)-1).toNat 0)≠n;split
  ·exact fun e=>hn e.symm
  ·rename_i hc;have ei:(((i:Nat):Int)-1).toNat=i-1:=by omega
   rw [ei,B5Y (by omega)];exact h2 (i-1) (by omega) (by omega)
theorem B3I {l:List Int} {n:Int} (hn:n≠0) (hd:l.Nodup):A5O l n≠n:=by
 unfold A5O;split
 ·unfold atI L9;cases h:A0P l n with
  | none=>
   show (if ((-1:Int)+1<0\/(l.length:Int)<=(-1:Int)+1) then 0 else l.getD ((-1:Int)+1).toNat 0)≠n;rename_i h0;unfold L9 at h0;rw [h] at h0;exact absurd h0 (by decide)
  | some i=>
   obtain⟨hi,e1,h2⟩:=A0Q h;show (if ((i:Nat):Int)+1<0\/(l.length:Int)<=((i:Nat):Int)+1 then 0 else l.getD (((i:Nat):Int)+1).toNat 0)≠n;split
   ·exact fun e=>hn e.symm
   ·rename_i hc;have ei:(((i:Nat):Int)+1).toNat=i+1:=by omega
    rw [ei,B5Y (by omega)];intro e;have hlt:i+1<l.length:=by omega
    have h3:=A8a hd (i+1) hlt;rw [e] at h3;unfold L9 at h3;rw [h] at h3;have h3:((i:Nat):Int)=((i+1:Nat):Int):=h3;omega
 ·exact fun e=>hn e.symm
structure Lk.Ok (L:Lk):Prop where
 id:1<=L.id/\L.id<=5
 H:L.H.Ok
 r:L.r.Ok
 nd:L.r.l.Nodup
 til:B3 L.til
theorem Lk.Ok.id0 {L:Lk} (h:L.Ok):L.id≠0:=by have:=h.id;omega
theorem Lk.Ok.front {L:Lk} (h:L.Ok):V7 L≠L.id:=B1A h.id0
theorem Lk.Ok.next {L:Lk} (h:L.Ok):A1I L≠L.id:=B3I h.id0 h.nd
theorem B7B (L:Lk) (v:Wd):(Z1 L v).H=L.H/\(Z1 L v).id=L.id/\(Z1 L v).r=L.r/\(Z1 L v).til=L.til:=by unfold Z1;split<;>exact⟨rfl,rfl,rfl,rfl⟩
theorem B3J (L:Lk) (v:Wd):(Z1 L v).done.length<=L.done.length+1:=by
 unfold Z1;split
 ·show (L.done++[v]).length<=_;rw [z6];exact zc _
 ·omega
theorem W6 {v:Wd} (h:Thin v) (S:Nat->Prop) (w:World) {x:WX} {S':Nat->Prop} {w':World} (hr:WdR v x S' w'):WdR v x S w:=by obtain⟨k,f,t,e,s,q,u,r,ro,ds,st⟩:=v;obtain⟨h1,h2,h3⟩:=h;cases h1;cases h2;cases h3;obtain⟨⟨r1,r2⟩,r3⟩:=hr;refine⟨⟨⟨r1.1,r1.2.1,fun h=>absurd rfl h⟩,⟨r2.1,r2.2.1,fun h=>absurd rfl h⟩⟩,?_⟩;obtain⟨A,cap,css,B,cap',e1,e2,e3,e4,e5⟩:=r3;have ec:css=[]:=e3;subst ec;exact⟨A,cap,[],B,cap',e1,e2,rfl,⟨e4.1,e4.2.1,fun h=>absurd rfl h⟩,⟨e5.1,e5.2.1,fun h=>absurd rfl h⟩⟩
end Go.Proofs.YtefdfaeieekioaaGreatDoor
