/- Part of the proof. -/
import Derived.Test.YtkmahpcpmgedkaaGreatDoorFC29
set_option linter.all false
set_option maxHeartbeats 16000000
set_option maxRecDepth 100000
namespace Go.Proofs.Tryz
open Go Go.Dom
variable {b i x:Nat}
def kU (k:Bytes) (c:UInt8) (i:Nat):Bytes:=(List.range 64).map fun j=>if j<i then k.getD j 0^^^c else k.getD j 0
def Dv (k:Bytes) (c:UInt8):Bytes:=kU k c 64
def CJ (k:Bytes):Bytes:=if k.length>64 then mn k else k
def Ns (k s:Bytes):Bytes:=mn (Dv (CJ k) 92++mn (Dv (CJ k) 54++s))
theorem fh (k:Bytes) (c:UInt8) (i:Nat):(kU k c i).length=64:=by simp[kU]
theorem tY {k:Bytes} {c:UInt8} {j:Nat} (h:j<64):(kU k c i).getD j 0=if j<i then k.getD j 0^^^c else k.getD j 0:=by
 simp[kU,br,h]
theorem F9 {k:Bytes} {c:UInt8} (h:i<64):(kU k c i).set i (k.getD i 0^^^c)=kU k c (i+1):=by
 apply um
 ·simp[kU]
 ·intro n h1 h2;rw[List.getElem_set];simp only[kU,List.getElem_map,List.getElem_range]
  by_cases hn:i=n
  ·subst hn;simp
  ·rw[ae hn];have:(n<i)=(n<i+1):=by simp;omega
   simp only[this]
theorem IJ {k:Bytes} (c:UInt8) (h:k.length<=64):List.take k.length (aH k)++List.drop k.length (List.replicate 64 (AV.v (.i .u8 0)))=aH (kU k c 0):=by
 rw[jP];unfold aH kU;apply um
 ·simp;omega
 ·intro n h1 h2;simp only[aC,pK]at h2;simp only[List.getElem_map,List.getElem_range,pE,aq]
  by_cases hn:n<k.length
  ·rw[List.getElem_append_left (by simpa using hn)]
   simp[br,hn]
  ·rw[List.getElem_append_right (by simpa using hn)]
   simp only[List.getElem_drop,List.getElem_replicate];simp[br,hn,u8]
theorem jO {l:Bytes} (h:i<l.length):(aH l).getD i .u= .v (u8 (l.getD i 0)):=by
 simp[aH,br,h]
theorem Qs (l:Bytes) {o:Nat} (c:UInt8) (h:o<l.length):(aH l).take o++(.v (.i .u8 (c.toNat:Int))::(aH l).drop (o+1))=aH (l.set o c):=by
 unfold aH;rw[uh,ya];simp[h,u8]
theorem Sx (a c:UInt8):EN .u8 (a.toNat:Int) (c.toNat:Int)=((a^^^c).toNat:Int):=by
 have:=S4 .u8 rfl (a:=a.toNat) (b:=c.toNat) (by have:=a.toNat_lt;exact this) (by have:=c.toNat_lt;exact this)
 rw[this];simp
theorem TQ {k s:Bytes} (h0:k.length<1000000) (hs:s.length<1000000):aE 435 [.s k, .s s] (.s (Ns k s)):=by
 have hq:=uM (s:=k) oO;have hq2:(mn k).length<=64:=by rw[jl];decide
 have hs1:=uM (s:=Dv (CJ k) 54++s) (by rw[bT,Dv,fh];omega)
 have hs2:=uM (s:=Dv (CJ k) 92++mn (Dv (CJ k) 54++s)) (by rw[bT,Dv,fh,jl];omega)
 unfold Ns
 by_cases hk:k.length<=64
 ·have e:CJ k=k:=by unfold CJ;rw[ae oO]
  rw[e]at hs1 hs2⊢;clear hq hq2 h0;refine eW call435 func435 ?_;refine qB ?_;refine af (α:=Nat) (fun i=>64-i) (fun i=>⟨[(1, .v (.s s)),(5, .p 1004 0 0),(6, .p 1005 0 0),(19,E' i)],[(1005,⟨0,aH (kU k 92 i),false,some 391⟩),(1004,⟨0,aH (kU k 54 i),false,some 391⟩)],_⟩) (fun i=>i<=64) 0 (fun _=>aA _) (aI _) ?_ ?_
  ·refine AS.Le.of oD ?_ ?_<;>simp[dC,dA,aP,ay,AV.bd,au,hk];exact⟨IJ 92 hk,IJ 54 hk⟩
  ·intro i hi R hR
   by_cases hlt:i<64
   ·have hgo:=hR (i+1) oO oO;have g1:(aH (kU k 54 i)).getD i .u= .v (.i .u8 ((k.getD i 0).toNat:Int)):=by rw[jO (by rw[fh];exact hlt),tY hlt,ae (nW i)];rfl
    have g2:(aH (kU k 92 i)).getD i .u= .v (.i .u8 ((k.getD i 0).toNat:Int)):=by rw[jO (by rw[fh];exact hlt),tY hlt,ae (nW i)];rfl
    have g3:=Sx (k.getD i 0) 54;have g4:=Sx (k.getD i 0) 92;have g5:((54:UInt8).toNat:Int)=54:=rfl;have g6:((92:UInt8).toNat:Int)=92:=rfl;rw[g5]at g3;rw[g6]at g4;refine dI (aN @g1 (aN @g2 (aN @g3 (aN @g4 @fh)))) ?_;refine hgo _ ?_;have g7:=Qs (kU k 92 i) (o:=i) (k.getD i 0^^^92) (by rw[fh];exact hlt)
    have g8:=Qs (kU k 54 i) (o:=i) (k.getD i 0^^^54) (by rw[fh];exact hlt)
    rw[F9 hlt]at g7 g8;refine AS.Le.of oD ?_ ?_<;>simp[dC,dA,aP,ay,AV.bd,au];exact⟨by simpa using g7,by simpa using g8⟩
   ·obtain rfl:i=64:=oO;have t1: ∀c,List.take 64 (aH (kU k c 64))=aH (kU k c 64):=fun c=>cl (by rw[mN,fh];exact aA _)
    have t2: ∀l,(∀y,y∈aH l->y.isByte)=True:=fun l=>by
     simp only[eq_iff_iff,iff_true];intro y hy;obtain⟨c,-,rfl⟩:=bm.1 hy;simp[AV.isByte,u8,y7]
    unfold Dv at hs1 hs2⊢;exact B8 (aN @fh (aN @t1 (aN @t2 (aN @lK @jl)))) @hs1 @hs2
 ·have e:CJ k=mn k:=by unfold CJ;rw[ah oO]
  rw[e]at hs1 hs2⊢;generalize mn k=q at*;refine eW call435 func435 ?_;refine Zj @hq ?_;clear hq h0 hk;have hk:=hq2;refine af (α:=Nat) (fun i=>64-i) (fun i=>⟨[(1, .v (.s s)),(5, .p 1007 0 0),(6, .p 1008 0 0),(19,E' i)],[(1008,⟨0,aH (kU q 92 i),false,some 391⟩),(1007,⟨0,aH (kU q 54 i),false,some 391⟩)],_⟩) (fun i=>i<=64) 0 (fun _=>aA _) (aI _) ?_ ?_
  ·refine AS.Le.of oD ?_ ?_<;>simp[dC,dA,aP,ay,AV.bd,au,hk];exact⟨IJ 92 hk,IJ 54 hk⟩
  ·intro i hi R hR
   by_cases hlt:i<64
   ·have hgo:=hR (i+1) oO oO;have g1:(aH (kU q 54 i)).getD i .u= .v (.i .u8 ((q.getD i 0).toNat:Int)):=by rw[jO (by rw[fh];exact hlt),tY hlt,ae (nW i)];rfl
    have g2:(aH (kU q 92 i)).getD i .u= .v (.i .u8 ((q.getD i 0).toNat:Int)):=by rw[jO (by rw[fh];exact hlt),tY hlt,ae (nW i)];rfl
    have g3:=Sx (q.getD i 0) 54;have g4:=Sx (q.getD i 0) 92;have g5:((54:UInt8).toNat:Int)=54:=rfl;have g6:((92:UInt8).toNat:Int)=92:=rfl;rw[g5]at g3;rw[g6]at g4;refine dI (aN @g1 (aN @g2 (aN @g3 (aN @g4 @fh)))) ?_;refine hgo _ ?_;have g7:=Qs (kU q 92 i) (o:=i) (q.getD i 0^^^92) (by rw[fh];exact hlt)
    have g8:=Qs (kU q 54 i) (o:=i) (q.getD i 0^^^54) (by rw[fh];exact hlt)
    rw[F9 hlt]at g7 g8;refine AS.Le.of oD ?_ ?_<;>simp[dC,dA,aP,ay,AV.bd,au];exact⟨by simpa using g7,by simpa using g8⟩
   ·obtain rfl:i=64:=oO;have t1: ∀c,List.take 64 (aH (kU q c 64))=aH (kU q c 64):=fun c=>cl (by rw[mN,fh];exact aA _)
    have t2: ∀l,(∀y,y∈aH l->y.isByte)=True:=fun l=>by
     simp only[eq_iff_iff,iff_true];intro y hy;obtain⟨c,-,rfl⟩:=bm.1 hy;simp[AV.isByte,u8,y7]
    unfold Dv at hs1 hs2⊢;exact B8 (aN @fh (aN @t1 (aN @t2 (aN @lK @jl)))) @hs1 @hs2
def AH:Nat->Nat->Bytes
 |0,_=>[]
 |k+1,n=>AH k (n/10)++[UInt8.ofNat (48+n%10)]
abbrev WD:TypeId:=411
def z24:List AV:=List.replicate 24 (.v (.i .u8 0))
def FX:Bytes:=(List.range 100).flatMap fun n=>[UInt8.ofNat (48+n/10),UInt8.ofNat (48+n%10)]
def Zf (k n:Nat):aF:=⟨0,(AV.v (.i .u8 0)::((AH k n).map fun c=>AV.v (u8 c)))++List.replicate (23-k) (AV.v (.i .u8 0)),false,some WD⟩
theorem w32 (n:Nat):IntKind.u32.wrap (n:Int)=((n%4294967296:Nat):Int):=by rw[IntKind.wrap_u32];omega
theorem w8 (n:Nat):IntKind.u8.wrap (n:Int)=((UInt8.ofNat n).toNat:Int):=by rw[qZ];simp
theorem i2 (n:Nat):(n:Int)*2=((n*2:Nat):Int):=oO
theorem i1 (n:Nat):(n:Int)+1=((n+1:Nat):Int):=oO
theorem i48 (n:Nat):(48:Int)+n=((48+n:Nat):Int):=oO
theorem q2 (x:Nat):x%100*2%4294967296=x%100*2:=oO
theorem q3 (x:Nat):(x%100*2+1)%4294967296=x%100*2+1:=oO
theorem dtF: ∀n:Fin 100,FX.getD (n.val*2) 0=UInt8.ofNat (48+n.val/10)/\FX.getD (n.val*2+1) 0=UInt8.ofNat (48+n.val%10):=by decide+kernel
theorem dt1 (x:Nat):FX.getD (x%100*2+1) 0=UInt8.ofNat (48+x%10):=by
 have:=(dtF ⟨x%100,aL _ oC⟩).2;rw[this];congr 2;simp only;omega
theorem dt2 (x:Nat):FX.getD (x%100*2) 0=UInt8.ofNat (48+x/10%10):=by
 have:=(dtF ⟨x%100,aL _ oC⟩).1;rw[this];congr 2;simp only;omega
theorem aav:[48,48,48,49,48,50,48,51,48,52,48,53,48,54,48,55,48,56,48,57,49,48,49,49,49,50,49,51,49,52,49,53,49,54,49,55,49,56,49,57,50,48,50,49,50,50,50,51,50,52,50,53,50,54,50,55,50,56,50,57,51,48,51,49,51,50,51,51,51,52,51,53,51,54,51,55,51,56,51,57,52,48,52,49,52,50,52,51,52,52,52,53,52,54,52,55,52,56,52,57,53,48,53,49,53,50,53,51,53,52,53,53,53,54,53,55,53,56,53,57,54,48,54,49,54,50,54,51,54,52,54,53,54,54,54,55,54,56,54,57,55,48,55,49,55,50,55,51,55,52,55,53,55,54,55,55,55,56,55,57,56,48,56,49,56,50,56,51,56,52,56,53,56,54,56,55,56,56,56,57,57,48,57,49,57,50,57,51,57,52,57,53,57,54,57,55,57,56,57,57]=FX:=by decide+kernel
theorem Ye:FX.length=200:=by decide+kernel
theorem Xk {a b:AV} {l m:List AV} (h:a=b) (g:l=m):a::l=b::m:=by rw[h,g]
theorem dgE {a:Nat} (h:a=b):AV.v (.i .u8 ((UInt8.ofNat a).toNat:Int))=AV.v (.i .u8 ((UInt8.ofNat b).toNat:Int)):=by rw[h]
theorem dgA (h:x<100) (e:48+x/10=b):AV.v (.i .u8 ((FX.getD (x*2%4294967296) 0).toNat:Int))=AV.v (.i .u8 ((UInt8.ofNat b).toNat:Int)):=by
 have:=dt2 x;rw[b9 h]at this;rw[b9 (show x*2<4294967296 by omega),this,<-e];congr 5;omega
theorem dgB (h:x<100) (e:48+x%10=b):AV.v (.i .u8 ((FX.getD ((x*2%4294967296+1)%4294967296) 0).toNat:Int))=AV.v (.i .u8 ((UInt8.ofNat b).toNat:Int)):=by
 have:=dt1 x;rw[b9 h]at this;rw[b9 (show x*2<4294967296 by omega),b9 (show x*2+1<4294967296 by omega),this,<-e]
theorem Y3:z24=[.v (.i .u8 0), .v (.i .u8 0), .v (.i .u8 0), .v (.i .u8 0), .v (.i .u8 0), .v (.i .u8 0), .v (.i .u8 0), .v (.i .u8 0), .v (.i .u8 0), .v (.i .u8 0), .v (.i .u8 0), .v (.i .u8 0), .v (.i .u8 0), .v (.i .u8 0), .v (.i .u8 0), .v (.i .u8 0), .v (.i .u8 0), .v (.i .u8 0), .v (.i .u8 0), .v (.i .u8 0), .v (.i .u8 0), .v (.i .u8 0), .v (.i .u8 0), .v (.i .u8 0)]:=rfl
theorem fbA {k:Nat} (hk:k=3\/k=4\/k=5\/k=6\/k=7\/k=8\/k=9\/k=10) (o nm u:Nat) (hu:u<10^k) (h32:u<4294967296):ml prog 395 nm [(o,⟨0,z24,false,some WD⟩)] [.rs o 0 1 k 1, .v (.i .u64 (u:Int))] (.tup []) [(o,some (Zf k u))]:=by
 have h1:u%4294967296=u:=oO;refine ml.w mixed call395 func395 rfl (nh.1 _ _ _ (by cbv)) (nh.2 _ _ (by cbv)) (obs:=[⟨0,z24,false,some WD⟩]) (args:=[.rs 0 0 1 k 1, .v (.i .u64 (u:Int))]) (fs:=[some (some (Zf k u))]) (j:=none) (nw:=none) (v:= .tup []) (ns:=[o]) (obsA:=[⟨0,z24,false,some WD⟩]) rfl ?_ (by simp) (by simp) rfl (by simp[bz,aF.aZ,AV.aZ,AV.aZ.renL,dM,z24]) (by simp[bz,AV.aZ,AV.aZ.renL,dM]) (by simp[AV.aZ,AV.aZ.renL]) (by rcases hk with rfl|rfl|rfl|rfl|rfl|rfl|rfl|rfl<;>simp[gY,outs,aF.aZ,AV.aZ,AV.aZ.renL,aO,kF,Zf,AH])
 rcases hk with rfl|rfl|rfl|rfl|rfl|rfl|rfl|rfl
 all_goals
  simp only[Nat.reducePow]at hu;simp only[go_sem,seval,Y3];repeat' first|simp only[go_sem,seval,true_or,or_true,false_or,or_false,aj,kD,fE,jB,ia,ic,fG,rq,rX,iL,jY,eP,aV,AV.aZ,AV.aZ.renL,aO,w32,w8,i2,i1,i48,h1,q2,q3,aav,Ye,dt1,dt2]|(refine ai ?_)|refine oE ?_|apply xX<;>intro hc
  all_goals first|decide|omega|skip
  all_goals (
   refine congrArg (fun l=>aF.mk 0 l false (some WD)) ?_
   simp only[AH,jv,bC,bR,List.nil_append,List.cons_append,u8];repeat' (first|rfl|refine Xk ?_ ?_|fail)
   all_goals first|(refine dgE ?_;omega)|(refine dgA ?_ ?_<;>omega)|(refine dgB ?_ ?_<;>omega))
theorem UU (L:Nat) (h:L<=64):aE 450 [E L] (E (Lib.l10 L)):=by
 unfold Lib.l10;refine eW call450 func450 ?_;repeat' first|simp only[go_sem,seval]|refine oE ?_|apply xX<;>intro hc
 all_goals (rw[Jg _ oC];first|rfl|(congr 1;omega))
theorem SI (b:Bool):aE 452 [.b b] (E (if b then 1 else 0)):=by
 cases b
 ·refine eW call452 func452 ?_;exact z0
 ·refine eW call452 func452 ?_;exact z0
theorem Vz: ∀q:Fin 20,([.i .u64 1, .i .u64 10, .i .u64 100, .i .u64 1000, .i .u64 10000, .i .u64 100000, .i .u64 1000000, .i .u64 10000000, .i .u64 100000000, .i .u64 1000000000, .i .u64 10000000000, .i .u64 100000000000, .i .u64 1000000000000, .i .u64 10000000000000, .i .u64 100000000000000, .i .u64 1000000000000000, .i .u64 10000000000000000, .i .u64 100000000000000000, .i .u64 1000000000000000000, .i .u64 10000000000000000000]:List PV).getD q.val .fn0= .i .u64 (10^q.val:Nat):=by
 intro q;rcases q with⟨q,hq⟩
 rcases(by omega:q=0\/q=1\/q=2\/q=3\/q=4\/q=5\/q=6\/q=7\/q=8\/q=9\/q=10\/q=11\/q=12\/q=13\/q=14\/q=15\/q=16\/q=17\/q=18\/q=19)with rfl|rfl|rfl|rfl|rfl|rfl|rfl|rfl|rfl|rfl|rfl|rfl|rfl|rfl|rfl|rfl|rfl|rfl|rfl|rfl<;>rfl
theorem Rq (u:Nat) (h1:1<=u) (h2:u<(2^64)):aE 394 [.i .u64 (u:Int)] (E (Lib.nDigits u)):=by
 obtain⟨e1,e2⟩:=Lib.numDigits_eq u h1 h2;have hb:=Ec u h2;have hbl:Lib.bitLen u<=64:=by unfold Lib.bitLen;exact Lib.bitLen_le u 64 (aA _) h2
 have hl:=UU (Lib.bitLen u) hbl;have hp:=Vz ⟨Lib.l10 (Lib.bitLen u),oO⟩;simp only at hp;have hp: ∀ _:True,_:=fun _=>hp
 have hp2:=dc (n:=10) oC e2
 by_cases hq:10^Lib.l10 (Lib.bitLen u)<=u
 ·rw[ah hq]at e1;rw[<-e1];have hd: ∀ _:True,decide ((u:Int)>=((10^Lib.l10 (Lib.bitLen u):Nat):Int))=true:=fun _=>aJ (by exact_mod_cast hq)
  have hc2:=SI true;generalize Lib.l10 (Lib.bitLen u)=q at*;generalize 10^q=p at*;refine eW call394 func394 ?_;exact wJ (aN (hp oT) (hd oT)) @hb @hl @hc2 oT
 ·rw[ae hq]at e1;rw[<-e1];have hd: ∀ _:True,decide ((u:Int)>=((10^Lib.l10 (Lib.bitLen u):Nat):Int))=false:=fun _=>aG (by intro h;exact hq (by exact_mod_cast h))
  have hc2:=SI false;generalize Lib.l10 (Lib.bitLen u)=q at*;generalize 10^q=p at*;refine eW call394 func394 ?_;exact wJ (aN (hp oT) (hd oT)) @hb @hl @hc2 oT
theorem Mv (k n:Nat):(AH k n).length=k:=by
 induction k generalizing n with
 |zero=>rfl
 |succ k ih=>simp[AH,ih]
theorem QH: ∀(k n:Nat),Lib.nDigits n=k->AH k n=Lib.decDigits n:=by
 intro k
 induction k with
 |zero=>intro n h;have:=Lib.nDigits_pos n;omega
 |succ k ih=>
  intro n h
  by_cases hn:n<10
  ·rw[Lib.nDigits_small hn]at h;obtain rfl:k=0:=oO;rw[Lib.decDigits_one hn];simp[AH,b9 hn]
  ·rw[Lib.nDigits_big hn]at h;rw[AH,ih (n/10) oO]
   conv=>rhs;rw[Lib.decDigits,dif_neg hn]
theorem TH (n:Nat) (h1:100<=n) (h2:n<4294967296):aE 291 [.i .i64 (n:Int), .i .i64 10] (.s (Lib.decDigits n)):=by
 obtain⟨k,hk⟩: ∃k,Lib.nDigits n=k:=⟨_,rfl⟩;have hlt:=Lib.lt_pow_nDigits n;rw[<-QH k n hk];have q: ∀j,10^j<=n->n<10^(j+1)->k=j+1:=fun j a b=>by rw[<-hk];exact Lib.nDigits_unique j n a b
 have hk8:k=3\/k=4\/k=5\/k=6\/k=7\/k=8\/k=9\/k=10:=by
  rcases(by omega:n<1000\/1000<=n/\n<10000\/10000<=n/\n<100000\/100000<=n/\n<1000000\/1000000<=n/\n<10000000\/10000000<=n/\n<100000000\/100000000<=n/\n<1000000000\/1000000000<=n/\n<10000000000)with g|g|g|g|g|g|g|g
  ·have:=q 2 oO oO;omega
  ·have:=q 3 oO oO;omega
  ·have:=q 4 oO oO;omega
  ·have:=q 5 oO oO;omega
  ·have:=q 6 oO oO;omega
  ·have:=q 7 oO oO;omega
  ·have:=q 8 oO oO;omega
  ·have:=q 9 oO oO;omega
 have hn:=Rq n oO oO;have hf:=fun nm=>fbA hk8 1009 nm n (by rw[<-hk];exact hlt) h2
 have hd:=Mv k n;rw[hk]at hn;clear q hlt;rcases hk8 with rfl|rfl|rfl|rfl|rfl|rfl|rfl|rfl
 all_goals
  refine eW call291 func291 ?_;repeat' first|simp only[go_sem,seval,<-Y3,Zf,AH,u8,jv,List.nil_append,List.cons_append]|refine cP hn ?_|(refine cu (hf _) (by simp[ay]) ?_)|refine oE ?_|apply xX<;>intro hc
theorem QI (n:Nat) (h:n<100):iw n=Lib.decDigits n:=by
 unfold iw
 by_cases g:n<10
 ·rw[ah g,Lib.decDigits_one g]
 ·rw[ae g,Lib.decDigits_two g h]
theorem HP (n:Nat) (h2:n<4294967296):aE 76 [.i .i64 (n:Int)] (.s (Lib.decDigits n)):=by
 by_cases h:n<100
 ·rw[<-QI n h];exact B9 n h
 have hF:=TH n oO h2;have hI:aE 173 [.i .i64 (n:Int)] (.s (Lib.decDigits n)):=by
  refine eW call173 func173 ?_;exact z1 @hF
 refine eW call76 func76 ?_;exact z1 @hI
end Go.Proofs.Tryz
namespace Go.Proofs.Tryz
open Go Go.Dom Go.RowKit Go.Shelf
theorem GN: ∀(k u:Nat),u<10^(k+1)->Lib.nDigits u<=k+1:=by
 intro k
 induction k with
 |zero=>intro u h;rw[Lib.nDigits_small (by simpa using h)];exact aA _
 |succ k ih=>
  intro u h
  by_cases hu:u<10
  ·rw[Lib.nDigits_small hu];omega
  ·rw[Lib.nDigits_big hu];have:=ih (u/10) (by rw[Nat.pow_succ]at h;omega)
   omega
theorem wY {n:Nat} (h:n<4294967296):(Lib.decDigits n).length<=10:=by
 rw[Lib.decDigits_length];exact GN 9 n (by omega)
def JC (at' a b:Nat):Bytes:=Lib.decDigits at'++[46]++Lib.decDigits a++[46]++Lib.decDigits b
def Cf (sd:Bytes) (at' a b:Nat):Bytes:=Ns sd (JC at' a b)
def JB (sd:Bytes) (at' a:Nat) (b:Nat):Nat->List (List PV)
 |0=>[]
 |k+1=>[.s (Cf sd at' a b)]::JB sd at' a (b+1) k
theorem JD {vs:PV} {sd:Bytes} {at' a k:Nat} (hsd:sd.length<1000000) (hk:k<1000000) (ha:at'<4294967296) (ha2:a<4294967296):Y8 prog 434 [.pt (.agg [vs, .s sd, .i .i64 at']) 0, .pt (.agg [.i .i64 a]) 0] false (JB sd at' a 0 k):=by
 refine⟨call434,?_⟩;intro w rd cvs l J Jx htr hcaps hrd hb hbx hY hfin h0;have hfin:=hfin rfl;obtain⟨p,us,rfl,hp,hcaps⟩:=hcaps.fH;obtain⟨q,us,rfl,hq,hnil⟩:=hcaps.fH;obtain rfl:=hnil.eg;obtain⟨bp,op,rfl,c1,c2⟩: ∃bp op,p= .pointer (some ⟨bp,op,none⟩)/\rd bp (op+1)=some (.string ⟨sd.toArray⟩)/\rd bp (op+2)=some (.int .i64 at'):=by
  cases hp with
  |pt x o vs' bk of h1 hl hr h=>
   have hv: ∀i,i<3-> ∃v,vs'[i]?=some v:=fun i hi=>⟨_,bw (by have:vs'.length=3:=hl.symm;omega)⟩
   obtain⟨a1,b1⟩:=hv 1 (by decide)
   obtain⟨a2,b2⟩:=hv 2 (by decide)
   have q1:=h 1 _ _ rfl b1;have q2:=h 2 _ _ rfl b2
   cases q1;cases q2
   exact⟨bk,of,rfl,hr 1 _ b1,hr 2 _ b2⟩
 obtain⟨bq,oq,rfl,c3⟩: ∃bq oq,q= .pointer (some ⟨bq,oq,none⟩)/\rd bq oq=some (.int .i64 a):=by
  cases hq with
  |pt x o vs' bk of h1 hl hr h=>
   obtain⟨v,rfl⟩:=pO.1 (show vs'.length=1 from hl.symm)
   have:=h 0 _ v rfl rfl;cases this;exact⟨bk,of,rfl,hr 0 _ rfl⟩
 refine callsIn_of_wp func434 rfl trivial ?_;simp only[Tryz.ntmps434,my,List.length_cons,List.length_nil,Nat.reduceAdd,Nat.reduceSub,Array.replicate_succ,Array.replicate_zero,List.push_toArray,List.append_toArray,List.nil_append,List.cons_append]
 gi_wp2
 gi_loopw [4] (fun p wr=> ∃b:Nat,p= .int .i64 (b:Int)/\b<=k/\J (JB sd at' a b (k-b)) wr) (fun p wr=>match p with| .int _ n=>k-n.toNat| _=>0)
 case atStart=>
  exact⟨0,rfl,aI _,h0⟩
 case round=>
  obtain⟨b,rfl,hbk,hJ⟩:=hrel;have hlt:b<k:=by
   rcases pP b k with h|h
   ·exact h
   ·have:k-b=0:=by omega
    rw[this]at hJ;exact(hfin trivial _ hJ).elim
  obtain⟨m,hm⟩: ∃m,k-b=m+1:=⟨k-b-1,by omega⟩
  rw[hm]at hJ;change J ([.s (Ns sd (JC at' a b))]::JB sd at' a (b+1) m) wr at hJ;have h1:=HP at' ha;have h2:=HP a ha2;have h3:=HP b (by omega)
  have l1:=wY ha;have l2:=wY ha2;have l3:=wY (n:=b) (by omega)
  have hlN:(JC at' a b).length<1000000:=by simp[JC];omega
  refine wpIn_seq (wpIn_block (wpIn_seq ?_));refine wpIn_mono (Kv mixed (rd:=rd) (pvs:=[(1, .pt (.agg [vs, .s sd, .i .i64 at']) 0),(2, .pt (.agg [.i .i64 a]) 0),(4, .i .i64 b)]) (out:=[(5, .s (JC at' a b))]) (nh.1 26 _ _ (by cbv)) rfl htr (hrd _ _ hJ) ?hp (CW.start ?aw)) ?cont
  case hp=>
   intro p hm;simp only[cb,iD,or_false]at hm;rcases hm with rfl|rfl|rfl
   ·exact hp
   ·exact hq
   ·exact .i _ _
  case aw=>
   simp only[go_sem,seval];repeat' first|simp only[go_sem,seval,bT]|refine cP h1 ?_|refine cP h2 ?_|refine cP h3 ?_|refine oE ?_|apply xX<;>intro hc
   all_goals simp[JC]
  case cont=>
   rintro e ⟨t,df⟩ W2 ⟨rfl,⟨hdf,hsz,hbl,hout⟩,hkp⟩;have k0:=hkp.at 0 rfl;have k1:=hkp.at 1 rfl;have k2:=hkp.at 2 rfl;have k3:=hkp.at 3 rfl;have k4:=hkp.at 4 rfl;have k5:=hout _ (cR.2 rfl);have hl:=P6 hsz;simp only[my,List.length_cons,List.length_nil,dF,Nat.reduceAdd]at hl;rw[show List.range 26=[0,1,2,3,4,5,6,7,8,9,10,11,12,13,14,15,16,17,18,19,20,21,22,23,24,25]from rfl]at hl
   simp only[bC,bR]at hl;change t.getD 0 undef=Value.func (Fn.yield l) #[] #[]at k0;change t.getD 1 undef=Value.pointer (some ⟨bp,op,none⟩)at k1;change t.getD 2 undef=Value.pointer (some ⟨bq,oq,none⟩)at k2;change t.getD 3 undef=undef at k3;change t.getD 4 undef=Value.int .i64 b at k4;change PR _ _ (t.getD 5 undef)at k5;rw[k0,k1,k2,k3,k4]at hl;generalize t.getD 5 undef=v5 at hl k5;cases k5;obtain rfl:df=[]:=hdf;rw[hl];clear hl k0 k1 k2 k3 k4 hsz hout hkp;simp only[Exit.then];have hJ2:=hb _ _ _ hJ hbl;have d4:=hrd _ _ hJ2 _ _ _ (c1)
   gi_wp2
   refine⟨trivial,rfl,(rv.calls (TQ hsd hlN) call435 W2 rd [_,_] htr (hrd _ _ hJ2) ?_).mono ?_⟩
   ·exact .cons (.s _) (.cons (.s _) .nil)
   rintro x W3 ⟨v,rfl,hbl3,hpr⟩;cases hpr;have hJ3:=hb _ _ _ hJ2 hbl3;obtain⟨fn,tmps,assign,body,hy,hR⟩:=hY _ _ _ W3 hJ3 (.cons (.s _) .nil)
   gi_wp2
   refine⟨rfl,hR.mono ?_⟩;rintro x W4 (⟨rfl,hJ5⟩|⟨rfl,hJx⟩)
   ·have hw3:IntKind.i64.wrap ((b:Int)+1)=(b:Int)+1:=IntWalk.i64_in _ (by omega)
    gi_wp2
    refine⟨⟨b+1,by push_cast;rfl,by omega,by rw[show k-(b+1)=m from by omega];exact hJ5⟩,?_⟩
    ·show k-((b:Int)+1).toNat<k-(b:Int).toNat;omega
   ·gi_wp2
    refine bodyPost_ret (results_none rfl _ _ _) rfl ?_;exact⟨⟨_,rfl⟩, .inr hJx⟩
