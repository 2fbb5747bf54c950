/- Part of the proof. -/
import Derived.Test.YtipbhapfacgabaaGreatDoorUH25
import Derived.Test.YtipbhapfacgabaaGreatDoorUH23
set_option linter.all false
set_option maxHeartbeats 16000000
set_option maxRecDepth 100000
namespace Go.Dom
open Go.RowKit
variable {K R:Act->World->Prop} {P:Program} {a a' a0:Act} {ops:Array Oper}

def l7 (ops:Array Oper) (a a':Act):Prop:= ∀k,(∀(j:Nat) (o:Oper),ops[j]?=some o->o.dst≠some k)->a'.tmps.getD k undef=a.tmps.getD k undef
theorem l7.put (h:l7 ops a a') {j:Nat} {o:Oper} (ho:ops[j]?=some o) (v:Value) (ds:List Deferred):l7 ops a (({a' with defers:=ds}:Act).put o.dst v):=by
 intro k hk;have hd:=hk j o ho;unfold Act.put
 cases hdst:o.dst with
 |none=>exact h k hk
 |some d=>
  have hne:d≠k:=fun e=>hd (by rw[hdst,e])
  show(a'.tmps.setIfInBounds d v).getD k undef= _;rw[<-h k hk];simp[ja,Array.getElem?_setIfInBounds,hne]
theorem l7.at (h:l7 ops a a') (k:Nat) (hk:(ops.toList.all fun o=> !(o.dst==some k))=true):a'.tmps.getD k undef=a.tmps.getD k undef:=by
 refine h k fun j o ho he=> ?_
 have hm:o∈ops.toList:=Array.mem_toList_iff.2 (Dg ho);have:=bJ.1 hk o hm;rw[he]at this;simp at this
theorem PL {t:Array Value} {n:Nat} (h:t.size=n):t=((List.range n).map fun k=>t.getD k undef).toArray:=by
 subst h;apply Array.ext
 ·simp
 ·intro i h1 h2;simp[ja,w9 h1]
def QN (R:Act->World->Prop):Exit->Act->World->Prop:=fun e a w=>e= .normal/\R a w
theorem Lk {F:Fence} {n:Nat} {j:Nat} {o:Oper} (ho:ops[j]?=some o) (hk:l7 ops a0 a) {r:Result Next} (h:o.uponIn F n P a K (QN R) r):o.uponIn F n P a (fun a' w'=>K a' w'/\l7 ops a0 a') (QN fun a w=>R a w/\l7 ops a0 a) r:=by
 have hl: ∀(R:Act->World->Prop),¬LetsOut (QN R):=by rintro R ⟨a,w,h,-⟩;cases h
 have hp: ∀(v:Value),l7 ops a0 (a.put o.dst v):=fun v=>hk.put ho v a.defers
 cases r with
 |ok x w'=>
  cases x with
  |value v=>exact⟨h,hp v⟩
  |skip=>exact⟨h,hp _⟩
  |defer d=>exact⟨h,hk.put ho _ _⟩
  |enter f args=>
   simp only[Oper.uponIn]at h⊢;refine⟨h.1,CallsIn.mono h.2 fun e w'' he=> ?_⟩
   cases e with
   |returned v=>exact⟨he,hp v⟩
   |panicked c=>obtain⟨h,-⟩:=he;cases h
   |outgrown=>exact(hl _ he).elim
  |row row args=>
   simp only[Oper.uponIn]at h⊢;exact⟨h.1,RowsIn.mono h.2 fun v w'' he=>⟨he,hp v⟩⟩
  |round l f tmps assign body=>
   simp only[Oper.uponIn]at h⊢;refine⟨h.1,RoundIn.mono h.2 fun e w'' he=> ?_⟩
   cases e with
   |returned v=>exact⟨he,hp v⟩
   |panicked c=>obtain⟨h,-⟩:=he;cases h
   |outgrown=>exact(hl _ he).elim
  | _=>exact h
 |halt e w'=>
  cases e with
  |panic v=>obtain⟨h,-⟩:=h;cases h
  | _=>exact h
theorem Rg {F:Fence} {n:Nat} {w:World} {i:Nat} (hk:l7 ops a0 a) (h:wpOpIn F n P ops (QN R) i K a w):wpOpIn F n P ops (QN fun a w=>R a w/\l7 ops a0 a) i (fun a' w'=>K a' w'/\l7 ops a0 a') a w:=by
 unfold wpOpIn at*
 cases ho:ops[i]? with
 |none=>simp only[ho]at h⊢;exact⟨h,hk⟩
 |some o=>
  simp only[ho]at h⊢;split
  ·rename_i hw;rw[ah hw]at h;exact⟨h.1,Lk ho hk h.2⟩
  ·rename_i hw;rw[af hw]at h;exact⟨h.1,h.2,hk.put ho _ a.defers⟩
theorem LV {F:Fence} {n:Nat} {md:Region.Mode}: ∀(fuel:Nat) (listed:Array Bool) (a:Act) (w:World),l7 ops a0 a->wpAnyIn F n P md ops (QN R) fuel listed a w->wpAnyIn F n P md ops (QN fun a w=>R a w/\l7 ops a0 a) fuel listed a w:=by
 intro fuel
 induction fuel with
 |zero=>intro listed a w hk h;exact⟨h.1,h.2.1,h.2.2,hk⟩
 |succ fuel ih=>
  intro listed a w hk h;refine⟨fun hr=>⟨(h.1 hr).1,(h.1 hr).2,hk⟩,fun i hi=> ?_⟩
  exact wpOpIn_mono (fun a' w' h'=>ih _ _ _ h'.2 h'.1) (Rg hk (h.2 i hi))
theorem KB [ct P] (hm:P.follows .mixedOrders=true) {id:Nat} {sc:SC} {W:World} {rd:Rd} {pvs out:List (Nat×PV)} (hc:comp P a.tmps.size (.region id ops true)=some sc) (hd:a.defers=[]) (htr: ∀b o v,TR P b o=some v->rd b o=some v) (hrd: ∀b o v,rd b o=some v->W.cell? ⟨b,o,none⟩=some v)
  (hp: ∀p∈pvs,PR rd p.2 (a.tmps.getD p.1 undef)) (h:aw P sc (fun x s=>x= .normal/\ ∀p∈out,aO s.t p.1= .v p.2) ⟨pvs.map fun p=>(p.1, .v p.2),[],1000⟩):
  (Code.region id ops true).wpIn Fence.wide 0 P (fun e a' W'=>e= .normal/\((a'.defers=[]/\a'.tmps.size=a.tmps.size/\Below W.heap.size W W'/\ ∀p∈out,PR (fW rd W W') p.2 (a'.tmps.getD p.1 undef))/\l7 ops a a')) a W:=by
 let E:Env P:=⟨W,rd,fun b=>W.heap.size<=b,a.tmps.size,⟨rd,fun _=>False,fun _=>none,fun _=>0,fun _=>0,fun _=>false⟩,[],fun _ h=>h.elim,htr,W.heap.size,[],none,⟨rd,fun _=>False,fun _=>none,fun _=>0,fun _=>0,fun _=>false⟩,aB _,by simp,[],by simp⟩
 have hs0:mK E ⟨pvs.map fun p=>(p.1, .v p.2),[],1000⟩ a W:=by
  refine⟨⟨⟨rd,fun n=>n<1000,fun _=>none,fun _=>0,fun _=>0,fun _=>false⟩,?_,⟨hrd,?_,fun _ _=>rfl,?_,?_,?_,?_,?_,fun n ob hn=>by simp[Dom.hget]at hn⟩,fun _ _=>rfl,⟨⟨Wf.refl _ _,aB _,by simp[E]⟩,⟨⟨fun _ _ _ h=>h,fun _ h=>h.elim,fun _ h=>h.elim,fun _ h=>h.elim⟩,⟨fun _ _ _ h=>h,fun _ h=>h.elim,fun _ h=>h.elim,fun _ h=>h.elim⟩⟩,fun n ob hn=>by simp[Dom.hget]at hn⟩,hd,rfl,?_⟩,fun n hn=>hn.elim False.elim False.elim⟩
  ·intro n;simp
  ·intro n ob hn;simp[Dom.hget]at hn
  ·intro n ob hn;simp[Dom.hget]at hn
  ·intro n m ob oc hn;simp[Dom.hget]at hn
  ·intro n ob hn;simp[Dom.hget]at hn
  ·intro n ob hn;simp[Dom.hget]at hn
  ·intro n ob hn;simp[Dom.hget]at hn
  ·intro k;rcases FD (t:=pvs.map fun p=>(p.1,AV.v p.2)) (k:=k)with e|e
   ·rw[e];exact .u _
   ·obtain⟨p,hpm,he⟩:=cG.1 e;injection he with e1 e2
    rw[<-e2,<-e1];exact .v (hp p hpm)
 have hend: ∀(s:AS) (a':Act) (W':World),(∀p∈out,aO s.t p.1= .v p.2)->mK E s a' W'->a'.defers=[]/\a'.tmps.size=a.tmps.size/\Below W.heap.size W W'/\ ∀p∈out,PR (fW rd W W') p.2 (a'.tmps.getD p.1 undef):=by
  intro s a' W' hq hsr;obtain⟨⟨C,hal,hh,hrd',⟨hwf,-,-⟩,hdf,hsz,htm⟩,-⟩:=hsr;refine⟨hdf,hsz,⟨hwf.wf.os,hwf.wf.tape,hwf.wf.output,hwf.wf.size,fun k hk=>hwf.wf.blk k hk (fun hw=>by have:W.heap.size<=k:=hw;omega)⟩,fun p hp=> ?_⟩
  have h1:=htm p.1;rw[hq p hp]at h1
  cases h1 with
  |v h2=>
   refine h2.mono fun b o v hv=> ?_
   unfold fW
   by_cases hb:b<W.heap.size
   ·rw[ah hb];have e:C.rd b=rd b:=hrd' b (.inl hb);rw[e]at hv;exact hv
   ·rw[af hb];exact hh.rdw _ _ _ hv
 simp only[comp,HU]at hc
 split at hc
 ·rename_i sops hsops;obtain⟨hlen,hok⟩:=x7 hsops;simp only[aA]at hc
  split at hc
  ·rename_i hcond;simp only[aV]at hcond;simp only[ai]at hc;subst hc;simp only[aw]at h;obtain⟨s2,tr,h1,h2,h3,h4⟩:=D4 (sops:=sops) sops 0 _ [] _ (fun j=>by simp) h
   rw[<-Da]at h1;have hl:=Ez h1;rw[wQ]at hl;have hind:=yo hl hcond.2 h3;rw[hlen]at h1 hind;refine wpIn_region_any hm ?_;refine LV (R:=fun a' W'=>a'.defers=[]/\a'.tmps.size=a.tmps.size/\Below W.heap.size W W'/\ ∀p∈out,PR (fW rd W W') p.2 (a'.tmps.getD p.1 undef)) _ _ _ _ (fun _ _=>rfl) ?_
   have hrep: ∀k,k<ops.size->(Array.replicate ops.size false).getD k true=false:=by
    intro k hk;simp[ja,hk]
   refine BF (E:=E) (fun b hb=>hb) hlen hok hcond.1 (nx:=1000) (al:=fun n=>n<1000) (fun k _ h=>by omega) ?_ ops.size _ (List.range ops.size) _ _ tr a _ (by simp) List.pairwise_lt_range ?_ (by simp) ?_ h1 hind ?_
   ·intro a' w' hsr;refine⟨rfl,hend {s2 with nx:=1000+sops.length} a' w' h4.2 ?_⟩
    rw[hlen];exact mK.region hs0.2 hsr
   ·intro k;rw[fE];exact⟨fun h=>⟨h,hrep k h⟩,fun h=>h.1⟩
   ·intro j o ho hl;have hj:j<ops.size:=(mI.1 ho).1;rw[hrep j hj]at hl;cases hl
   ·refine hs0.1.drew.kT fun n=>⟨.inl,?_⟩
    rintro(h|⟨k,h1,h2,-⟩)
    ·exact h
    ·rw[hrep k h1]at h2;cases h2
  ·cases hc
 ·cases hc
end Go.Dom
namespace Go.Proofs.Tryz
open Go Go.Dom
def ky (k:Bytes) (c:UInt8) (i:Nat):Bytes:=(List.range 64).map fun j=>if j<i then k.getD j 0^^^c else k.getD j 0
def C3 (k:Bytes) (c:UInt8):Bytes:=ky k c 64
def Cr (k:Bytes):Bytes:=if k.length>64 then nG k else k
def Ny (k s:Bytes):Bytes:=nG (C3 (Cr k) 92++nG (C3 (Cr k) 54++s))
theorem fC (k:Bytes) (c:UInt8) (i:Nat):(ky k c i).length=64:=by simp[ky]
theorem tA {k:Bytes} {c:UInt8} {i j:Nat} (h:j<64):(ky k c i).getD j 0=if j<i then k.getD j 0^^^c else k.getD j 0:=by
 simp[ky,bR,h]
theorem FP {k:Bytes} {c:UInt8} {i:Nat} (h:i<64):(ky k c i).set i (k.getD i 0^^^c)=ky k c (i+1):=by
 apply tL
 ·simp[ky]
 ·intro n h1 h2;rw[List.getElem_set];simp only[ky,List.getElem_map,List.getElem_range]
  by_cases hn:i=n
  ·subst hn;simp
  ·rw[af hn];have:(n<i)=(n<i+1):=by simp;omega
   simp only[this]
theorem IB {k:Bytes} (c:UInt8) (h:k.length<=64):List.take k.length (aH k)++List.drop k.length (List.replicate 64 (AV.v (.i .u8 0)))=aH (ky k c 0):=by
 rw[ju];unfold aH ky;apply tL
 ·simp;omega
 ·intro n h1 h2;simp only[aR,wQ]at h2;simp only[List.getElem_map,List.getElem_range,tB,ak]
  by_cases hn:n<k.length
  ·rw[List.getElem_append_left (by simpa using hn)]
   simp[bR,hn]
  ·rw[List.getElem_append_right (by simpa using hn)]
   simp only[List.getElem_drop,List.getElem_replicate];simp[bR,hn,u8]
theorem jt {l:Bytes} {i:Nat} (h:i<l.length):(aH l).getD i .u= .v (u8 (l.getD i 0)):=by
 simp[aH,bR,h]
theorem Qb (l:Bytes) {o:Nat} (c:UInt8) (h:o<l.length):(aH l).take o++(.v (.i .u8 (c.toNat:Int))::(aH l).drop (o+1))=aH (l.set o c):=by
 unfold aH;rw[wU,xl];simp[h,u8]
theorem Sl (a c:UInt8):EJ .u8 (a.toNat:Int) (c.toNat:Int)=((a^^^c).toNat:Int):=by
 have:=SP .u8 rfl (a:=a.toNat) (b:=c.toNat) (by have:=a.toNat_lt;exact this) (by have:=c.toNat_lt;exact this)
 rw[this];simp
theorem TB {k s:Bytes} (h0:k.length<1000000) (hs:s.length<1000000):aF 312 [.s k, .s s] (.s (Ny k s)):=by
 have hq:=q9 (s:=k) oO;have hq2:(nG k).length<=64:=by rw[jf];decide
 have hs1:=q9 (s:=C3 (Cr k) 54++s) (by rw[bU,C3,fC];omega)
 have hs2:=q9 (s:=C3 (Cr k) 92++nG (C3 (Cr k) 54++s)) (by rw[bU,C3,fC,jf];omega)
 unfold Ny
 by_cases hk:k.length<=64
 ·have e:Cr k=k:=by unfold Cr;rw[af oO]
  rw[e]at hs1 hs2⊢;clear hq hq2 h0;refine eW call312 func312 ?_;refine Hw ?_;refine aq (α:=Nat) (fun i=>64-i) (fun i=>⟨[(1, .v (.s s)),(5, .p 1004 0 0),(6, .p 1005 0 0),(19,E' i)],[(1005,⟨0,aH (ky k 92 i),false,some 384⟩),(1004,⟨0,aH (ky k 54 i),false,some 384⟩)],_⟩) (fun i=>i<=64) 0 (fun _=>aB _) (aT _) ?_ ?_
  ·refine AS.Le.of oD ?_ ?_<;>simp[dG,dF,aO,hget,AV.bd,au,hk];exact⟨IB 92 hk,IB 54 hk⟩
  ·intro i hi R hR
   by_cases hlt:i<64
   ·have hgo:=hR (i+1) oO oO;have g1:(aH (ky k 54 i)).getD i .u= .v (.i .u8 ((k.getD i 0).toNat:Int)):=by rw[jt (by rw[fC];exact hlt),tA hlt,af (ni i)];rfl
    have g2:(aH (ky k 92 i)).getD i .u= .v (.i .u8 ((k.getD i 0).toNat:Int)):=by rw[jt (by rw[fC];exact hlt),tA hlt,af (ni i)];rfl
    have g3:=Sl (k.getD i 0) 54;have g4:=Sl (k.getD i 0) 92;have g5:((54:UInt8).toNat:Int)=54:=rfl;have g6:((92:UInt8).toNat:Int)=92:=rfl;rw[g5]at g3;rw[g6]at g4;refine eJ (aN @g1 (aN @g2 (aN @g3 (aN @g4 @fC)))) ?_;refine hgo _ ?_;have g7:=Qb (ky k 92 i) (o:=i) (k.getD i 0^^^92) (by rw[fC];exact hlt)
    have g8:=Qb (ky k 54 i) (o:=i) (k.getD i 0^^^54) (by rw[fC];exact hlt)
    rw[FP hlt]at g7 g8;refine AS.Le.of oD ?_ ?_<;>simp[dG,dF,aO,hget,AV.bd,au];exact⟨by simpa using g7,by simpa using g8⟩
   ·obtain rfl:i=64:=oO;have t1: ∀c,List.take 64 (aH (ky k c 64))=aH (ky k c 64):=fun c=>dc (by rw[l9,fC];exact aB _)
    have t2: ∀l,(∀y,y∈aH l->y.isByte)=True:=fun l=>by
     simp only[eq_iff_iff,iff_true];intro y hy;obtain⟨c,-,rfl⟩:=cG.1 hy;simp[AV.isByte,u8,yt]
    unfold C3 at hs1 hs2⊢;exact wq (aN @fC (aN @t1 (aN @t2 (aN @kU @jf)))) @hs1 @hs2
 ·have e:Cr k=nG k:=by unfold Cr;rw[ah oO]
  rw[e]at hs1 hs2⊢;generalize nG k=q at*;refine eW call312 func312 ?_;refine Za @hq ?_;clear hq h0 hk;have hk:=hq2;refine aq (α:=Nat) (fun i=>64-i) (fun i=>⟨[(1, .v (.s s)),(5, .p 1007 0 0),(6, .p 1008 0 0),(19,E' i)],[(1008,⟨0,aH (ky q 92 i),false,some 384⟩),(1007,⟨0,aH (ky q 54 i),false,some 384⟩)],_⟩) (fun i=>i<=64) 0 (fun _=>aB _) (aT _) ?_ ?_
  ·refine AS.Le.of oD ?_ ?_<;>simp[dG,dF,aO,hget,AV.bd,au,hk];exact⟨IB 92 hk,IB 54 hk⟩
  ·intro i hi R hR
   by_cases hlt:i<64
   ·have hgo:=hR (i+1) oO oO;have g1:(aH (ky q 54 i)).getD i .u= .v (.i .u8 ((q.getD i 0).toNat:Int)):=by rw[jt (by rw[fC];exact hlt),tA hlt,af (ni i)];rfl
    have g2:(aH (ky q 92 i)).getD i .u= .v (.i .u8 ((q.getD i 0).toNat:Int)):=by rw[jt (by rw[fC];exact hlt),tA hlt,af (ni i)];rfl
    have g3:=Sl (q.getD i 0) 54;have g4:=Sl (q.getD i 0) 92;have g5:((54:UInt8).toNat:Int)=54:=rfl;have g6:((92:UInt8).toNat:Int)=92:=rfl;rw[g5]at g3;rw[g6]at g4;refine eJ (aN @g1 (aN @g2 (aN @g3 (aN @g4 @fC)))) ?_;refine hgo _ ?_;have g7:=Qb (ky q 92 i) (o:=i) (q.getD i 0^^^92) (by rw[fC];exact hlt)
    have g8:=Qb (ky q 54 i) (o:=i) (q.getD i 0^^^54) (by rw[fC];exact hlt)
    rw[FP hlt]at g7 g8;refine AS.Le.of oD ?_ ?_<;>simp[dG,dF,aO,hget,AV.bd,au];exact⟨by simpa using g7,by simpa using g8⟩
   ·obtain rfl:i=64:=oO;have t1: ∀c,List.take 64 (aH (ky q c 64))=aH (ky q c 64):=fun c=>dc (by rw[l9,fC];exact aB _)
    have t2: ∀l,(∀y,y∈aH l->y.isByte)=True:=fun l=>by
     simp only[eq_iff_iff,iff_true];intro y hy;obtain⟨c,-,rfl⟩:=cG.1 hy;simp[AV.isByte,u8,yt]
    unfold C3 at hs1 hs2⊢;exact wq (aN @fC (aN @t1 (aN @t2 (aN @kU @jf)))) @hs1 @hs2
end Go.Proofs.Tryz
namespace Go.Proofs.Tryz
open Go Go.Dom Go.RowKit Go.Shelf
theorem Gz: ∀(k u:Nat),u<10^(k+1)->Lib.nDigits u<=k+1:=by
 intro k
 induction k with
 |zero=>intro u h;rw[Lib.nDigits_small (by simpa using h)];exact aB _
 |succ k ih=>
  intro u h
  by_cases hu:u<10
  ·rw[Lib.nDigits_small hu];omega
  ·rw[Lib.nDigits_big hu];have:=ih (u/10) (by rw[Nat.pow_succ]at h;omega)
   omega
theorem BV {n:Nat} (h:n<4294967296):(Lib.decDigits n).length<=10:=by
 rw[Lib.decDigits_length];exact Gz 9 n (by omega)
def JG (at' a b:Nat):Bytes:=Lib.decDigits at'++[46]++Lib.decDigits a++[46]++Lib.decDigits b
def BP (sd:Bytes) (at' a b:Nat):Bytes:=Ny sd (JG at' a b)
def JF (sd:Bytes) (at' a:Nat) (b:Nat):Nat->List (List PV)
 |0=>[]
 |k+1=>[.s (BP sd at' a b)]::JF sd at' a (b+1) k
theorem JH {vs:PV} {sd:Bytes} {at' a k:Nat} (hsd:sd.length<1000000) (hk:k<1000000) (ha:at'<4294967296) (ha2:a<4294967296):WO prog 311 [.pt (.agg [vs, .s sd, .i .i64 at']) 0, .pt (.agg [.i .i64 a]) 0] false (JF sd at' a 0 k):=by
 refine⟨call311,?_⟩;intro w rd cvs l J Jx htr hcaps hrd hb hbx hY hfin h0;have hfin:=hfin rfl;obtain⟨p,us,rfl,hp,hcaps⟩:=hcaps.fO;obtain⟨q,us,rfl,hq,hnil⟩:=hcaps.fO;obtain rfl:=hnil.dx;obtain⟨bp,op,rfl,c1,c2⟩: ∃bp op,p= .pointer (some ⟨bp,op,none⟩)/\rd bp (op+1)=some (.string ⟨sd.toArray⟩)/\rd bp (op+2)=some (.int .i64 at'):=by
  cases hp with
  |pt x o vs' bk of h1 hl hr h=>
   have hv: ∀i,i<3-> ∃v,vs'[i]?=some v:=fun i hi=>⟨_,bG (by have:vs'.length=3:=hl.symm;omega)⟩
   obtain⟨a1,b1⟩:=hv 1 (by decide)
   obtain⟨a2,b2⟩:=hv 2 (by decide)
   have q1:=h 1 _ _ rfl b1;have q2:=h 2 _ _ rfl b2
   cases q1;cases q2
   exact⟨bk,of,rfl,hr 1 _ b1,hr 2 _ b2⟩
 obtain⟨bq,oq,rfl,c3⟩: ∃bq oq,q= .pointer (some ⟨bq,oq,none⟩)/\rd bq oq=some (.int .i64 a):=by
  cases hq with
  |pt x o vs' bk of h1 hl hr h=>
   obtain⟨v,rfl⟩:=pj.1 (show vs'.length=1 from hl.symm)
   have:=h 0 _ v rfl rfl;cases this;exact⟨bk,of,rfl,hr 0 _ rfl⟩
 refine callsIn_of_wp func311 rfl trivial ?_;simp only[Tryz.ntmps311,kL,List.length_cons,List.length_nil,Nat.reduceAdd,Nat.reduceSub,Dr,Array.replicate_zero,Dk,Dd,List.nil_append,List.cons_append]
 gi_wp2
 gi_loopw [4] (fun p wr=> ∃b:Nat,p= .int .i64 (b:Int)/\b<=k/\J (JF sd at' a b (k-b)) wr) (fun p wr=>match p with| .int _ n=>k-n.toNat| _=>0)
 case atStart=>
  exact⟨0,rfl,aT _,h0⟩
 case round=>
  obtain⟨b,rfl,hbk,hJ⟩:=hrel;have hlt:b<k:=by
   rcases ij b k with h|h
   ·exact h
   ·have:k-b=0:=by omega
    rw[this]at hJ;exact(hfin trivial _ hJ).elim
  obtain⟨m,hm⟩: ∃m,k-b=m+1:=⟨k-b-1,by omega⟩
  rw[hm]at hJ;change J ([.s (Ny sd (JG at' a b))]::JF sd at' a (b+1) m) wr at hJ;have h1:=Lz at' ha;have h2:=Lz a ha2;have h3:=Lz b (by omega)
  have l1:=BV ha;have l2:=BV ha2;have l3:=BV (n:=b) (by omega)
  have hlN:(JG at' a b).length<1000000:=by simp[JG];omega
  refine wpIn_seq (wpIn_block (wpIn_seq ?_));refine wpIn_mono (KB mixed (rd:=rd) (pvs:=[(1, .pt (.agg [vs, .s sd, .i .i64 at']) 0),(2, .pt (.agg [.i .i64 a]) 0),(4, .i .i64 b)]) (out:=[(5, .s (JG at' a b))]) (j5.1 26 _ _ (by cbv)) rfl htr (hrd _ _ hJ) ?hp (CW.start ?aw)) ?cont
  case hp=>
   intro p hm;simp only[bV,iu,or_false]at hm;rcases hm with rfl|rfl|rfl
   ·exact hp
   ·exact hq
   ·exact .i _ _
  case aw=>
   simp only[go_sem,seval];repeat' first|simp only[go_sem,seval,bU]|refine cP h1 ?_|refine cP h2 ?_|refine cP h3 ?_|refine oE ?_|apply xX<;>intro hc
   all_goals simp[JG]
  case cont=>
   rintro e ⟨t,df⟩ W2 ⟨rfl,⟨hdf,hsz,hbl,hout⟩,hkp⟩;have k0:=hkp.at 0 rfl;have k1:=hkp.at 1 rfl;have k2:=hkp.at 2 rfl;have k3:=hkp.at 3 rfl;have k4:=hkp.at 4 rfl;have k5:=hout _ (ik.2 rfl);have hl:=PL hsz;simp only[kL,List.length_cons,List.length_nil,fG,Nat.reduceAdd]at hl;rw[show List.range 26=[0,1,2,3,4,5,6,7,8,9,10,11,12,13,14,15,16,17,18,19,20,21,22,23,24,25]from rfl]at hl
   simp only[br,bH]at hl;change t.getD 0 undef=Value.func (Fn.yield l) #[] #[]at k0;change t.getD 1 undef=Value.pointer (some ⟨bp,op,none⟩)at k1;change t.getD 2 undef=Value.pointer (some ⟨bq,oq,none⟩)at k2;change t.getD 3 undef=undef at k3;change t.getD 4 undef=Value.int .i64 b at k4;change PR _ _ (t.getD 5 undef)at k5;rw[k0,k1,k2,k3,k4]at hl;generalize t.getD 5 undef=v5 at hl k5;cases k5;obtain rfl:df=[]:=hdf;rw[hl];clear hl k0 k1 k2 k3 k4 hsz hout hkp;simp only[Exit.then];have hJ2:=hb _ _ _ hJ hbl;have d4:=hrd _ _ hJ2 _ _ _ (c1)
   gi_wp2
   refine⟨trivial,rfl,(qO.calls (TB hsd hlN) call312 W2 rd [_,_] htr (hrd _ _ hJ2) ?_).mono ?_⟩
   ·exact .cons (.s _) (.cons (.s _) .nil)
   rintro x W3 ⟨v,rfl,hbl3,hpr⟩;cases hpr;have hJ3:=hb _ _ _ hJ2 hbl3;obtain⟨fn,tmps,assign,body,hy,hR⟩:=hY _ _ _ W3 hJ3 (.cons (.s _) .nil)
   gi_wp2
   refine⟨rfl,hR.mono ?_⟩;rintro x W4 (⟨rfl,hJ5⟩|⟨rfl,hJx⟩)
   ·have hw3:IntKind.i64.wrap ((b:Int)+1)=(b:Int)+1:=IntWalk.i64_in _ (by omega)
    gi_wp2
    refine⟨⟨b+1,by push_cast;rfl,by omega,by rw[show k-(b+1)=m from by omega];exact hJ5⟩,?_⟩
    ·show k-((b:Int)+1).toNat<k-(b:Int).toNat;omega
   ·gi_wp2
    refine bodyPost_ret (results_none rfl _ _ _) rfl ?_;exact⟨⟨_,rfl⟩, .inr hJx⟩
