/- Part of the proof. -/
import Derived.Test.YtkmahpcpmgedkaaGreatDoorFB31
set_option linter.all false
set_option maxHeartbeats 16000000
set_option maxRecDepth 100000
namespace Go.Proofs.Tryz
open Go Go.Dom
variable {b i x:Nat}
def kD (k:Bytes) (c:UInt8) (i:Nat):Bytes:=(List.range 64).map fun j=>if j<i then k.getD j 0^^^c else k.getD j 0
def pT (k:Bytes) (c:UInt8):Bytes:=kD k c 64
def ql (k:Bytes):Bytes:=if k.length>64 then me k else k
def C6 (k s:Bytes):Bytes:=me (pT (ql k) 92++me (pT (ql k) 54++s))
theorem eJ (k:Bytes) (c:UInt8) (i:Nat):(kD k c i).length=64:=by simp[kD]
theorem um {k:Bytes} {c:UInt8} {j:Nat} (h:j<64):(kD k c i).getD j 0=if j<i then k.getD j 0^^^c else k.getD j 0:=by
 simp[kD,bu,h]
theorem Gg {k:Bytes} {c:UInt8} (h:i<64):(kD k c i).set i (k.getD i 0^^^c)=kD k c (i+1):=by
 apply qV
 ·simp[kD]
 ·intro n h1 h2;rw[DQ];simp only[kD,Ek,Eg]
  by_cases hn:i=n
  ·subst hn;simp
  ·rw[ae hn];have:(n<i)=(n<i+1):=by simp;omega
   simp only[this]
theorem IY {k:Bytes} (c:UInt8) (h:k.length<=64):List.take k.length (aG k)++List.drop k.length (List.replicate 64 (AV.v (.i .u8 0)))=aG (kD k c 0):=by
 rw[jF];unfold aG kD;apply qV
 ·simp;omega
 ·intro n h1 h2;simp only[aB,pD]at h2;simp only[Ek,Eg,pB,an]
  by_cases hn:n<k.length
  ·rw[List.getElem_append_left (by simpa using hn)]
   simp[bu,hn]
  ·rw[List.getElem_append_right (by simpa using hn)]
   simp only[List.getElem_drop,List.getElem_replicate];simp[bu,hn,u8]
theorem jE {l:Bytes} (h:i<l.length):(aG l).getD i .u= .v (u8 (l.getD i 0)):=by
 simp[aG,bu,h]
theorem Mk (l:Bytes) {o:Nat} (c:UInt8) (h:o<l.length):(aG l).take o++(.v (.i .u8 (c.toNat:Int))::(aG l).drop (o+1))=aG (l.set o c):=by
 unfold aG;rw[uB,ya];simp[h,u8]
theorem Po (a c:UInt8):EY .u8 (a.toNat:Int) (c.toNat:Int)=((a^^^c).toNat:Int):=by
 have:=Tk .u8 rfl (a:=a.toNat) (b:=c.toNat) (by have:=a.toNat_lt;exact this) (by have:=c.toNat_lt;exact this)
 rw[this];simp
theorem T4 {k s:Bytes} (h0:k.length<1000000) (hs:s.length<1000000):aD 435 [.s k, .s s] (.s (C6 k s)):=by
 have hq:=vf (s:=k) oO;have hq2:(me k).length<=64:=by rw[fH];decide
 have hs1:=vf (s:=pT (ql k) 54++s) (by rw[bJ,pT,eJ];omega)
 have hs2:=vf (s:=pT (ql k) 92++me (pT (ql k) 54++s)) (by rw[bJ,pT,eJ,fH];omega)
 unfold C6
 by_cases hk:k.length<=64
 ·have e:ql k=k:=by unfold ql;rw[ae oO]
  rw[e]at hs1 hs2⊢;clear hq hq2 h0;refine eW call435 func435 ?_;refine pU ?_;refine af (α:=Nat) (fun i=>64-i) (fun i=>⟨[(1, .v (.s s)),(5, .p 1004 0 0),(6, .p 1005 0 0),(19,E' i)],[(1005,⟨0,aG (kD k 92 i),false,some 391⟩),(1004,⟨0,aG (kD k 54 i),false,some 391⟩)],_⟩) (fun i=>i<=64) 0 (fun _=>ay _) (aJ _) ?_ ?_
  ·refine AS.Le.of oD ?_ ?_<;>simp[dy,dx,aO,az,AV.bd,ax,hk];exact⟨IY 92 hk,IY 54 hk⟩
  ·intro i hi R hR
   by_cases hlt:i<64
   ·have hgo:=hR (i+1) oO oO;have g1:(aG (kD k 54 i)).getD i .u= .v (.i .u8 ((k.getD i 0).toNat:Int)):=by rw[jE (by rw[eJ];exact hlt),um hlt,ae (nW i)];rfl
    have g2:(aG (kD k 92 i)).getD i .u= .v (.i .u8 ((k.getD i 0).toNat:Int)):=by rw[jE (by rw[eJ];exact hlt),um hlt,ae (nW i)];rfl
    have g3:=Po (k.getD i 0) 54;have g4:=Po (k.getD i 0) 92;have g5:((54:UInt8).toNat:Int)=54:=rfl;have g6:((92:UInt8).toNat:Int)=92:=rfl;rw[g5]at g3;rw[g6]at g4;refine dH (aN @g1 (aN @g2 (aN @g3 (aN @g4 @eJ)))) ?_;refine hgo _ ?_;have g7:=Mk (kD k 92 i) (o:=i) (k.getD i 0^^^92) (by rw[eJ];exact hlt)
    have g8:=Mk (kD k 54 i) (o:=i) (k.getD i 0^^^54) (by rw[eJ];exact hlt)
    rw[Gg hlt]at g7 g8;refine AS.Le.of oD ?_ ?_<;>simp[dy,dx,aO,az,AV.bd,ax];exact⟨by simpa using g7,by simpa using g8⟩
   ·obtain rfl:i=64:=oO;have t1: ∀c,List.take 64 (aG (kD k c 64))=aG (kD k c 64):=fun c=>cb (by rw[kH,eJ];exact ay _)
    have t2: ∀l,(∀y,y∈aG l->y.isByte)=True:=fun l=>by
     simp only[eq_iff_iff,iff_true];intro y hy;obtain⟨c,-,rfl⟩:=bG.1 hy;simp[AV.isByte,u8,zD]
    unfold pT at hs1 hs2⊢;exact AN (aN @eJ (aN @t1 (aN @t2 (aN @jD @fH)))) @hs1 @hs2
 ·have e:ql k=me k:=by unfold ql;rw[ah oO]
  rw[e]at hs1 hs2⊢;generalize me k=q at*;refine eW call435 func435 ?_;refine Zk @hq ?_;clear hq h0 hk;have hk:=hq2;refine af (α:=Nat) (fun i=>64-i) (fun i=>⟨[(1, .v (.s s)),(5, .p 1007 0 0),(6, .p 1008 0 0),(19,E' i)],[(1008,⟨0,aG (kD q 92 i),false,some 391⟩),(1007,⟨0,aG (kD q 54 i),false,some 391⟩)],_⟩) (fun i=>i<=64) 0 (fun _=>ay _) (aJ _) ?_ ?_
  ·refine AS.Le.of oD ?_ ?_<;>simp[dy,dx,aO,az,AV.bd,ax,hk];exact⟨IY 92 hk,IY 54 hk⟩
  ·intro i hi R hR
   by_cases hlt:i<64
   ·have hgo:=hR (i+1) oO oO;have g1:(aG (kD q 54 i)).getD i .u= .v (.i .u8 ((q.getD i 0).toNat:Int)):=by rw[jE (by rw[eJ];exact hlt),um hlt,ae (nW i)];rfl
    have g2:(aG (kD q 92 i)).getD i .u= .v (.i .u8 ((q.getD i 0).toNat:Int)):=by rw[jE (by rw[eJ];exact hlt),um hlt,ae (nW i)];rfl
    have g3:=Po (q.getD i 0) 54;have g4:=Po (q.getD i 0) 92;have g5:((54:UInt8).toNat:Int)=54:=rfl;have g6:((92:UInt8).toNat:Int)=92:=rfl;rw[g5]at g3;rw[g6]at g4;refine dH (aN @g1 (aN @g2 (aN @g3 (aN @g4 @eJ)))) ?_;refine hgo _ ?_;have g7:=Mk (kD q 92 i) (o:=i) (q.getD i 0^^^92) (by rw[eJ];exact hlt)
    have g8:=Mk (kD q 54 i) (o:=i) (q.getD i 0^^^54) (by rw[eJ];exact hlt)
    rw[Gg hlt]at g7 g8;refine AS.Le.of oD ?_ ?_<;>simp[dy,dx,aO,az,AV.bd,ax];exact⟨by simpa using g7,by simpa using g8⟩
   ·obtain rfl:i=64:=oO;have t1: ∀c,List.take 64 (aG (kD q c 64))=aG (kD q c 64):=fun c=>cb (by rw[kH,eJ];exact ay _)
    have t2: ∀l,(∀y,y∈aG l->y.isByte)=True:=fun l=>by
     simp only[eq_iff_iff,iff_true];intro y hy;obtain⟨c,-,rfl⟩:=bG.1 hy;simp[AV.isByte,u8,zD]
    unfold pT at hs1 hs2⊢;exact AN (aN @eJ (aN @t1 (aN @t2 (aN @jD @fH)))) @hs1 @hs2
def Bi:Nat->Nat->Bytes
 |0,_=>[]
 |k+1,n=>Bi k (n/10)++[UInt8.ofNat (48+n%10)]
abbrev WI:TypeId:=411
def z24:List AV:=List.replicate 24 (.v (.i .u8 0))
def F4:Bytes:=(List.range 100).flatMap fun n=>[UInt8.ofNat (48+n/10),UInt8.ofNat (48+n%10)]
def Zf (k n:Nat):aF:=⟨0,(AV.v (.i .u8 0)::((Bi k n).map fun c=>AV.v (u8 c)))++List.replicate (23-k) (AV.v (.i .u8 0)),false,some WI⟩
theorem w32 (n:Nat):IntKind.u32.wrap (n:Int)=((n%4294967296:Nat):Int):=by rw[IntKind.wrap_u32];omega
theorem w8 (n:Nat):IntKind.u8.wrap (n:Int)=((UInt8.ofNat n).toNat:Int):=by rw[re];simp
theorem i2 (n:Nat):(n:Int)*2=((n*2:Nat):Int):=oO
theorem i1 (n:Nat):(n:Int)+1=((n+1:Nat):Int):=oO
theorem i48 (n:Nat):(48:Int)+n=((48+n:Nat):Int):=oO
theorem q2 (x:Nat):x%100*2%4294967296=x%100*2:=oO
theorem q3 (x:Nat):(x%100*2+1)%4294967296=x%100*2+1:=oO
theorem dtF: ∀n:Fin 100,F4.getD (n.val*2) 0=UInt8.ofNat (48+n.val/10)/\F4.getD (n.val*2+1) 0=UInt8.ofNat (48+n.val%10):=by decide+kernel
theorem dt1 (x:Nat):F4.getD (x%100*2+1) 0=UInt8.ofNat (48+x%10):=by
 have:=(dtF ⟨x%100,aL _ oC⟩).2;rw[this];congr 2;simp only;omega
theorem dt2 (x:Nat):F4.getD (x%100*2) 0=UInt8.ofNat (48+x/10%10):=by
 have:=(dtF ⟨x%100,aL _ oC⟩).1;rw[this];congr 2;simp only;omega
theorem aaw:[48,48,48,49,48,50,48,51,48,52,48,53,48,54,48,55,48,56,48,57,49,48,49,49,49,50,49,51,49,52,49,53,49,54,49,55,49,56,49,57,50,48,50,49,50,50,50,51,50,52,50,53,50,54,50,55,50,56,50,57,51,48,51,49,51,50,51,51,51,52,51,53,51,54,51,55,51,56,51,57,52,48,52,49,52,50,52,51,52,52,52,53,52,54,52,55,52,56,52,57,53,48,53,49,53,50,53,51,53,52,53,53,53,54,53,55,53,56,53,57,54,48,54,49,54,50,54,51,54,52,54,53,54,54,54,55,54,56,54,57,55,48,55,49,55,50,55,51,55,52,55,53,55,54,55,55,55,56,55,57,56,48,56,49,56,50,56,51,56,52,56,53,56,54,56,55,56,56,56,57,57,48,57,49,57,50,57,51,57,52,57,53,57,54,57,55,57,56,57,57]=F4:=by decide+kernel
theorem Yg:F4.length=200:=by decide+kernel
theorem Xm {a b:AV} {l m:List AV} (h:a=b) (g:l=m):a::l=b::m:=by rw[h,g]
theorem dgE {a:Nat} (h:a=b):AV.v (.i .u8 ((UInt8.ofNat a).toNat:Int))=AV.v (.i .u8 ((UInt8.ofNat b).toNat:Int)):=by rw[h]
theorem dgA (h:x<100) (e:48+x/10=b):AV.v (.i .u8 ((F4.getD (x*2%4294967296) 0).toNat:Int))=AV.v (.i .u8 ((UInt8.ofNat b).toNat:Int)):=by
 have:=dt2 x;rw[bY h]at this;rw[bY (show x*2<4294967296 by omega),this,<-e];congr 5;omega
theorem dgB (h:x<100) (e:48+x%10=b):AV.v (.i .u8 ((F4.getD ((x*2%4294967296+1)%4294967296) 0).toNat:Int))=AV.v (.i .u8 ((UInt8.ofNat b).toNat:Int)):=by
 have:=dt1 x;rw[bY h]at this;rw[bY (show x*2<4294967296 by omega),bY (show x*2+1<4294967296 by omega),this,<-e]
theorem Y2:z24=[.v (.i .u8 0), .v (.i .u8 0), .v (.i .u8 0), .v (.i .u8 0), .v (.i .u8 0), .v (.i .u8 0), .v (.i .u8 0), .v (.i .u8 0), .v (.i .u8 0), .v (.i .u8 0), .v (.i .u8 0), .v (.i .u8 0), .v (.i .u8 0), .v (.i .u8 0), .v (.i .u8 0), .v (.i .u8 0), .v (.i .u8 0), .v (.i .u8 0), .v (.i .u8 0), .v (.i .u8 0), .v (.i .u8 0), .v (.i .u8 0), .v (.i .u8 0), .v (.i .u8 0)]:=rfl
theorem fbA {k:Nat} (hk:k=3\/k=4\/k=5\/k=6\/k=7\/k=8\/k=9\/k=10) (o nm u:Nat) (hu:u<10^k) (h32:u<4294967296):mw prog 395 nm [(o,⟨0,z24,false,some WI⟩)] [.rs o 0 1 k 1, .v (.i .u64 (u:Int))] (.tup []) [(o,some (Zf k u))]:=by
 have h1:u%4294967296=u:=oO;refine mw.w mixed call395 func395 rfl (nf.1 _ _ _ (by cbv)) (nf.2 _ _ (by cbv)) (obs:=[⟨0,z24,false,some WI⟩]) (args:=[.rs 0 0 1 k 1, .v (.i .u64 (u:Int))]) (fs:=[some (some (Zf k u))]) (j:=none) (nw:=none) (v:= .tup []) (ns:=[o]) (obsA:=[⟨0,z24,false,some WI⟩]) rfl ?_ (by simp) (by simp) rfl (by simp[bz,aF.aY,AV.aY,AV.aY.renL,dP,z24]) (by simp[bz,AV.aY,AV.aY.renL,dP]) (by simp[AV.aY,AV.aY.renL]) (by rcases hk with rfl|rfl|rfl|rfl|rfl|rfl|rfl|rfl<;>simp[gY,outs,aF.aY,AV.aY,AV.aY.renL,aM,kC,Zf,Bi])
 rcases hk with rfl|rfl|rfl|rfl|rfl|rfl|rfl|rfl
 all_goals
  simp only[Nat.reducePow]at hu;simp only[go_sem,seval,Y2];repeat' first|simp only[go_sem,seval,true_or,or_true,false_or,or_false,aj,kB,fK,jo,ic,ie,fM,rm,rZ,iG,jO,eV,aU,AV.aY,AV.aY.renL,aM,w32,w8,i2,i1,i48,h1,q2,q3,aaw,Yg,dt1,dt2]|(refine ai ?_)|refine oE ?_|apply xX<;>intro hc
  all_goals first|decide|omega|skip
  all_goals (
   refine congrArg (fun l=>aF.mk 0 l false (some WI)) ?_
   simp only[Bi,jh,br,bK,List.nil_append,List.cons_append,u8];repeat' (first|rfl|refine Xm ?_ ?_|fail)
   all_goals first|(refine dgE ?_;omega)|(refine dgA ?_ ?_<;>omega)|(refine dgB ?_ ?_<;>omega))
theorem U4 (L:Nat) (h:L<=64):aD 450 [E L] (E (Lib.l10 L)):=by
 unfold Lib.l10;refine eW call450 func450 ?_;repeat' first|simp only[go_sem,seval]|refine oE ?_|apply xX<;>intro hc
 all_goals (rw[Jo _ oC];first|rfl|(congr 1;omega))
theorem S4 (b:Bool):aD 452 [.b b] (E (if b then 1 else 0)):=by
 cases b
 ·refine eW call452 func452 ?_;exact z0
 ·refine eW call452 func452 ?_;exact z0
theorem VJ: ∀q:Fin 20,([.i .u64 1, .i .u64 10, .i .u64 100, .i .u64 1000, .i .u64 10000, .i .u64 100000, .i .u64 1000000, .i .u64 10000000, .i .u64 100000000, .i .u64 1000000000, .i .u64 10000000000, .i .u64 100000000000, .i .u64 1000000000000, .i .u64 10000000000000, .i .u64 100000000000000, .i .u64 1000000000000000, .i .u64 10000000000000000, .i .u64 100000000000000000, .i .u64 1000000000000000000, .i .u64 10000000000000000000]:List PV).getD q.val .fn0= .i .u64 (10^q.val:Nat):=by
 intro q;rcases q with⟨q,hq⟩
 rcases(by omega:q=0\/q=1\/q=2\/q=3\/q=4\/q=5\/q=6\/q=7\/q=8\/q=9\/q=10\/q=11\/q=12\/q=13\/q=14\/q=15\/q=16\/q=17\/q=18\/q=19)with rfl|rfl|rfl|rfl|rfl|rfl|rfl|rfl|rfl|rfl|rfl|rfl|rfl|rfl|rfl|rfl|rfl|rfl|rfl|rfl<;>rfl
theorem RE (u:Nat) (h1:1<=u) (h2:u<(2^64)):aD 394 [.i .u64 (u:Int)] (E (Lib.nDigits u)):=by
 obtain⟨e1,e2⟩:=Lib.numDigits_eq u h1 h2;have hb:=Er u h2;have hbl:Lib.bitLen u<=64:=by unfold Lib.bitLen;exact Lib.bitLen_le u 64 (ay _) h2
 have hl:=U4 (Lib.bitLen u) hbl;have hp:=VJ ⟨Lib.l10 (Lib.bitLen u),oO⟩;simp only at hp;have hp: ∀ _:True,_:=fun _=>hp
 have hp2:=dF (n:=10) oC e2
 by_cases hq:10^Lib.l10 (Lib.bitLen u)<=u
 ·rw[ah hq]at e1;rw[<-e1];have hd: ∀ _:True,decide ((u:Int)>=((10^Lib.l10 (Lib.bitLen u):Nat):Int))=true:=fun _=>aI (by exact_mod_cast hq)
  have hc2:=S4 true;generalize Lib.l10 (Lib.bitLen u)=q at*;generalize 10^q=p at*;refine eW call394 func394 ?_;exact yG (aN (hp oT) (hd oT)) @hb @hl @hc2 oT
 ·rw[ae hq]at e1;rw[<-e1];have hd: ∀ _:True,decide ((u:Int)>=((10^Lib.l10 (Lib.bitLen u):Nat):Int))=false:=fun _=>aH (by intro h;exact hq (by exact_mod_cast h))
  have hc2:=S4 false;generalize Lib.l10 (Lib.bitLen u)=q at*;generalize 10^q=p at*;refine eW call394 func394 ?_;exact yG (aN (hp oT) (hd oT)) @hb @hl @hc2 oT
theorem MC (k n:Nat):(Bi k n).length=k:=by
 induction k generalizing n with
 |zero=>rfl
 |succ k ih=>simp[Bi,ih]
theorem QU: ∀(k n:Nat),Lib.nDigits n=k->Bi k n=Lib.decDigits n:=by
 intro k
 induction k with
 |zero=>intro n h;have:=Lib.nDigits_pos n;omega
 |succ k ih=>
  intro n h
  by_cases hn:n<10
  ·rw[Lib.nDigits_small hn]at h;obtain rfl:k=0:=oO;rw[Lib.decDigits_one hn];simp[Bi,bY hn]
  ·rw[Lib.nDigits_big hn]at h;rw[Bi,ih (n/10) oO]
   conv=>rhs;rw[Lib.decDigits,dif_neg hn]
theorem TW (n:Nat) (h1:100<=n) (h2:n<4294967296):aD 291 [.i .i64 (n:Int), .i .i64 10] (.s (Lib.decDigits n)):=by
 obtain⟨k,hk⟩: ∃k,Lib.nDigits n=k:=⟨_,rfl⟩;have hlt:=Lib.lt_pow_nDigits n;rw[<-QU k n hk];have q: ∀j,10^j<=n->n<10^(j+1)->k=j+1:=fun j a b=>by rw[<-hk];exact Lib.nDigits_unique j n a b
 have hk8:k=3\/k=4\/k=5\/k=6\/k=7\/k=8\/k=9\/k=10:=by
  rcases(by omega:n<1000\/1000<=n/\n<10000\/10000<=n/\n<100000\/100000<=n/\n<1000000\/1000000<=n/\n<10000000\/10000000<=n/\n<100000000\/100000000<=n/\n<1000000000\/1000000000<=n/\n<10000000000)with g|g|g|g|g|g|g|g
  ·have:=q 2 oO oO;omega
  ·have:=q 3 oO oO;omega
  ·have:=q 4 oO oO;omega
  ·have:=q 5 oO oO;omega
  ·have:=q 6 oO oO;omega
  ·have:=q 7 oO oO;omega
  ·have:=q 8 oO oO;omega
  ·have:=q 9 oO oO;omega
 have hn:=RE n oO oO;have hf:=fun nm=>fbA hk8 1009 nm n (by rw[<-hk];exact hlt) h2
 have hd:=MC k n;rw[hk]at hn;clear q hlt;rcases hk8 with rfl|rfl|rfl|rfl|rfl|rfl|rfl|rfl
 all_goals
  refine eW call291 func291 ?_;repeat' first|simp only[go_sem,seval,<-Y2,Zf,Bi,u8,jh,List.nil_append,List.cons_append]|refine cP hn ?_|(refine cd (hf _) (by simp[az]) ?_)|refine oE ?_|apply xX<;>intro hc
theorem QV (n:Nat) (h:n<100):iq n=Lib.decDigits n:=by
 unfold iq
 by_cases g:n<10
 ·rw[ah g,Lib.decDigits_one g]
 ·rw[ae g,Lib.decDigits_two g h]
theorem H3 (n:Nat) (h2:n<4294967296):aD 76 [.i .i64 (n:Int)] (.s (Lib.decDigits n)):=by
 by_cases h:n<100
 ·rw[<-QV n h];exact Cw n h
 have hF:=TW n oO h2;have hI:aD 173 [.i .i64 (n:Int)] (.s (Lib.decDigits n)):=by
  refine eW call173 func173 ?_;exact z1 @hF
 refine eW call76 func76 ?_;exact z1 @hI
end Go.Proofs.Tryz
namespace Go.Proofs.Tryz
open Go Go.Dom Go.RowKit Go.Shelf
theorem GZ: ∀(k u:Nat),u<10^(k+1)->Lib.nDigits u<=k+1:=by
 intro k
 induction k with
 |zero=>intro u h;rw[Lib.nDigits_small (by simpa using h)];exact ay _
 |succ k ih=>
  intro u h
  by_cases hu:u<10
  ·rw[Lib.nDigits_small hu];omega
  ·rw[Lib.nDigits_big hu];have:=ih (u/10) (by rw[Nat.pow_succ]at h;omega)
   omega
theorem oX {n:Nat} (h:n<4294967296):(Lib.decDigits n).length<=10:=by
 rw[Lib.decDigits_length];exact GZ 9 n (by omega)
def CD (at' a b:Nat):Bytes:=Lib.decDigits at'++[46]++Lib.decDigits a++[46]++Lib.decDigits b
def sU (sd:Bytes) (at' a b:Nat):Bytes:=C6 sd (CD at' a b)
def JJ (sd:Bytes) (at' a:Nat) (b:Nat):Nat->List (List PV)
 |0=>[]
 |k+1=>[.s (sU sd at' a b)]::JJ sd at' a (b+1) k
theorem JK {vs:PV} {sd:Bytes} {at' a k:Nat} (hsd:sd.length<1000000) (hk:k<1000000) (ha:at'<4294967296) (ha2:a<4294967296):Y9 prog 434 [.pt (.agg [vs, .s sd, .i .i64 at']) 0, .pt (.agg [.i .i64 a]) 0] false (JJ sd at' a 0 k):=by
 refine⟨call434,?_⟩;intro w rd cvs l J Jx htr hcaps hrd hb hbx hY hfin h0;have hfin:=hfin rfl;obtain⟨p,us,rfl,hp,hcaps⟩:=hcaps.fO;obtain⟨q,us,rfl,hq,hnil⟩:=hcaps.fO;obtain rfl:=hnil.ew;obtain⟨bp,op,rfl,c1,c2⟩: ∃bp op,p= .pointer (some ⟨bp,op,none⟩)/\rd bp (op+1)=some (.string ⟨sd.toArray⟩)/\rd bp (op+2)=some (.int .i64 at'):=by
  cases hp with
  |pt x o vs' bk of h1 hl hr h=>
   have hv: ∀i,i<3-> ∃v,vs'[i]?=some v:=fun i hi=>⟨_,bC (by have:vs'.length=3:=hl.symm;omega)⟩
   obtain⟨a1,b1⟩:=hv 1 (by decide)
   obtain⟨a2,b2⟩:=hv 2 (by decide)
   have q1:=h 1 _ _ rfl b1;have q2:=h 2 _ _ rfl b2
   cases q1;cases q2
   exact⟨bk,of,rfl,hr 1 _ b1,hr 2 _ b2⟩
 obtain⟨bq,oq,rfl,c3⟩: ∃bq oq,q= .pointer (some ⟨bq,oq,none⟩)/\rd bq oq=some (.int .i64 a):=by
  cases hq with
  |pt x o vs' bk of h1 hl hr h=>
   obtain⟨v,rfl⟩:=px.1 (show vs'.length=1 from hl.symm)
   have:=h 0 _ v rfl rfl;cases this;exact⟨bk,of,rfl,hr 0 _ rfl⟩
 refine callsIn_of_wp func434 rfl trivial ?_;simp only[Tryz.ntmps434,mC,List.length_cons,List.length_nil,Nat.reduceAdd,Nat.reduceSub,Array.replicate_succ,Array.replicate_zero,List.push_toArray,List.append_toArray,List.nil_append,List.cons_append]
 gi_wp2
 gi_loopw [4] (fun p wr=> ∃b:Nat,p= .int .i64 (b:Int)/\b<=k/\J (JJ sd at' a b (k-b)) wr) (fun p wr=>match p with| .int _ n=>k-n.toNat| _=>0)
 case atStart=>
  exact⟨0,rfl,aJ _,h0⟩
 case round=>
  obtain⟨b,rfl,hbk,hJ⟩:=hrel;have hlt:b<k:=by
   rcases py b k with h|h
   ·exact h
   ·have:k-b=0:=by omega
    rw[this]at hJ;exact(hfin trivial _ hJ).elim
  obtain⟨m,hm⟩: ∃m,k-b=m+1:=⟨k-b-1,by omega⟩
  rw[hm]at hJ;change J ([.s (C6 sd (CD at' a b))]::JJ sd at' a (b+1) m) wr at hJ;have h1:=H3 at' ha;have h2:=H3 a ha2;have h3:=H3 b (by omega)
  have l1:=oX ha;have l2:=oX ha2;have l3:=oX (n:=b) (by omega)
  have hlN:(CD at' a b).length<1000000:=by simp[CD];omega
  refine wpIn_seq (wpIn_block (wpIn_seq ?_));refine wpIn_mono (KB mixed (rd:=rd) (pvs:=[(1, .pt (.agg [vs, .s sd, .i .i64 at']) 0),(2, .pt (.agg [.i .i64 a]) 0),(4, .i .i64 b)]) (out:=[(5, .s (CD at' a b))]) (nf.1 26 _ _ (by cbv)) rfl htr (hrd _ _ hJ) ?hp (CW.start ?aw)) ?cont
  case hp=>
   intro p hm;simp only[cr,kx,or_false]at hm;rcases hm with rfl|rfl|rfl
   ·exact hp
   ·exact hq
   ·exact .i _ _
  case aw=>
   simp only[go_sem,seval];repeat' first|simp only[go_sem,seval,bJ]|refine cP h1 ?_|refine cP h2 ?_|refine cP h3 ?_|refine oE ?_|apply xX<;>intro hc
   all_goals simp[CD]
  case cont=>
   rintro e ⟨t,df⟩ W2 ⟨rfl,⟨hdf,hsz,hbl,hout⟩,hkp⟩;have k0:=hkp.at 0 rfl;have k1:=hkp.at 1 rfl;have k2:=hkp.at 2 rfl;have k3:=hkp.at 3 rfl;have k4:=hkp.at 4 rfl;have k5:=hout _ (dt.2 rfl);have hl:=Qm hsz;simp only[mC,List.length_cons,List.length_nil,dq,Nat.reduceAdd]at hl;rw[show List.range 26=[0,1,2,3,4,5,6,7,8,9,10,11,12,13,14,15,16,17,18,19,20,21,22,23,24,25]from rfl]at hl
   simp only[br,bK]at hl;change t.getD 0 undef=Value.func (Fn.yield l) #[] #[]at k0;change t.getD 1 undef=Value.pointer (some ⟨bp,op,none⟩)at k1;change t.getD 2 undef=Value.pointer (some ⟨bq,oq,none⟩)at k2;change t.getD 3 undef=undef at k3;change t.getD 4 undef=Value.int .i64 b at k4;change PR _ _ (t.getD 5 undef)at k5;rw[k0,k1,k2,k3,k4]at hl;generalize t.getD 5 undef=v5 at hl k5;cases k5;obtain rfl:df=[]:=hdf;rw[hl];clear hl k0 k1 k2 k3 k4 hsz hout hkp;simp only[Exit.then];have hJ2:=hb _ _ _ hJ hbl;have d4:=hrd _ _ hJ2 _ _ _ (c1)
   gi_wp2
   refine⟨trivial,rfl,(ry.calls (T4 hsd hlN) call435 W2 rd [_,_] htr (hrd _ _ hJ2) ?_).mono ?_⟩
   ·exact .cons (.s _) (.cons (.s _) .nil)
   rintro x W3 ⟨v,rfl,hbl3,hpr⟩;cases hpr;have hJ3:=hb _ _ _ hJ2 hbl3;obtain⟨fn,tmps,assign,body,hy,hR⟩:=hY _ _ _ W3 hJ3 (.cons (.s _) .nil)
   gi_wp2
   refine⟨rfl,hR.mono ?_⟩;rintro x W4 (⟨rfl,hJ5⟩|⟨rfl,hJx⟩)
   ·have hw3:IntKind.i64.wrap ((b:Int)+1)=(b:Int)+1:=IntWalk.i64_in _ (by omega)
    gi_wp2
    refine⟨⟨b+1,by push_cast;rfl,by omega,by rw[show k-(b+1)=m from by omega];exact hJ5⟩,?_⟩
    ·show k-((b:Int)+1).toNat<k-(b:Int).toNat;omega
   ·gi_wp2
    refine bodyPost_ret (results_none rfl _ _ _) rfl ?_;exact⟨⟨_,rfl⟩, .inr hJx⟩
end Go.Proofs.Tryz
namespace Go.Proofs.Tryz
open Go Go.Dom Go.Num
variable {S i len:Nat} {n sd:Bytes} {vs:List Bytes}
theorem y7 (vs:List Bytes) (sd:Bytes) (at':Int) (a:Nat):aD 365 [T vs sd at', .i .i64 a] (.fc 434 [] [.pt (T vs sd at') 0, .pt (.agg [.i .i64 a]) 0]):=by
 refine eW call365 func365 ?_;exact z0
theorem Mg (sd:Bytes) (at' a:Nat): ∀(k b:Nat),∀y∈JJ sd at' a b k,y.length=1:=by
 intro k
 induction k with
 |zero=>intro b y hy;cases hy
 |succ k ih=>
  intro b y hy
  cases hy with
  |head=>rfl
  |tail _ h=>exact ih _ _ h
def js (size:Nat):Nat:=max 1 ((size+31)/32)
def nX (sd:Bytes) (at' a:Nat):Nat->Bytes
 |0=>[]
 |k+1=>nX sd at' a k++sU sd at' a k
def IT:Bytes->Nat->Bytes
 |[],_=>[]
 |x::r,d=>UInt8.ofNat (x.toNat%2^(8-d))::r
theorem Rx: ∀(d:Fin 8) (x:Fin 256),mU .u8 (x.val:Int) (Int.fdiv 255 (2^d.val))=((UInt8.ofNat (x.val%2^(8-d.val))).toNat:Int):=by decide+kernel
theorem nB (c:UInt8) (r:Bytes):aG (c::r)= .v (.i .u8 (c.toNat:Int))::aG r:=rfl
def gI:Bytes->Bytes
 |[]=>[]
 |x::r=>if x=0 then gI r else x::r
def yQ (sd:Bytes) (at' a len:Nat):Bytes:=gI (IT ((nX sd at' a (js ((len+7)/8))).take ((len+7)/8)) (8*((len+7)/8)-len))
theorem vL (h:1<=S) (x:UInt8) (r:Bytes) (d:Nat):IT (List.take S (x::r)) d=List.take S (UInt8.ofNat (x.toNat%2^(8-d))::r):=by
 obtain⟨S,rfl⟩: ∃m,S=m+1:=⟨S-1,oO⟩;rfl
theorem MG {q:Bytes} (h:i<S) (hS:S<=q.length):(q.take S).drop i=q.getD i 0::(q.take S).drop (i+1):=by
 rw[jf (by rw[bV];omega),List.getElem_take,bu,bC oO];rfl
theorem Iu (q:Bytes) (S i:Nat):List.take (S-i) (List.drop i (aG q))=aG ((q.take S).drop i):=by
 rw[aG,aG,uG,yg,uE]
theorem rU (l:Bytes): ∀y∈aG l,y.isByte:=by
 intro y hy;obtain⟨c,_,rfl⟩:=bG.1 hy;exact oT
theorem Gs {at' a:Nat} (hv:vs.length<1000000) (hsd:sd.length<1000000) (ha:at'<4294967296) (ha2:a<4294967296) (hl0:0<len) (hl:len<100000):aD 243 [T vs sd at', .i .i64 a, .i .i64 len] (.s (yQ sd at' a len)):=by
 have hb:=y7 vs sd at' a;have hit:=JK (vs:= .sl (vs.map .s)) (sd:=sd) (at':=at') (a:=a) (k:=js ((len+7)/8)) hsd (by unfold js;omega) ha ha2
 have hsz: ∀ _:True,IntKind.i64.wrap (((len:Int)+7).tdiv 8)=(((len+7)/8:Nat):Int):=by
  intro _;rw[Jr oO,IntWalk.i64_in _ oO];omega
 have hs1:1<=(len+7)/8/\(len+7)/8<=13000:=oO;have hlen: ∀b,(sU sd at' a b).length=32:=fun b=>by unfold sU C6;rw[fH]
 have hcat: ∀k,(nX sd at' a k).length=32*k:=by
  intro k
  induction k with
  |zero=>rfl
  |succ k ih=>rw[nX,bJ,ih,hlen];omega
 have hR: ∀k,k<js ((len+7)/8)-> ¬(len+7)/8<=32*k\/k=0:=by intro k h;unfold js at h;omega
 refine eW call243 func243 ?_;refine kz (hsz oT) @hb ?_;unfold yQ;generalize hS:(len+7)/8=S at*;refine LC hit rfl ?_ ?_
 ·intro y hy;exact Mg _ _ _ _ _ y hy
 refine Sp (α:=Nat) (fun k=>match k with|0=>⟨[(7, .p 1005 0 0),(8, .p 1007 0 0),(2, .v (.i .i64 len))],[(1005,⟨0,[.v (.i .i64 S)],false,some 3⟩),(1007,⟨0,[.sn],false,some 196⟩)],1011⟩|k+1=>⟨[(7, .p 1005 0 0),(8, .p 1007 0 0),(2, .v (.i .i64 len))],[(1005,⟨0,[.v (.i .i64 S)],false,some 3⟩),(1007,⟨0,[.rs 1014 k 0 (32*(k+1)) 1],false,some 196⟩),(1014,⟨k,aG (nX sd at' a (k+1)),true,some 5⟩)],1020⟩) (fun xs k=>k<js S/\xs=JJ sd at' a k (js S-k)) 0 ?_ ⟨by unfold js;omega,rfl⟩ ?_ ?_ ?_
 ·intro k;cases k
  ·exact ay _
  ·show 1011<=1020;decide
 ·refine AS.Le.of oC ?_ ?_<;>simp[dy,dx,aO,az,AV.bd,AV.bd.bdL]
 ·rintro k ⟨h1,h2⟩;obtain⟨m,hm⟩: ∃m,js S-k=m+1:=⟨js S-k-1,oO⟩;rw[hm]at h2;cases h2
 ·rintro y ys k ⟨h1,h2⟩ R hRR;obtain⟨m,hm⟩: ∃m,js S-k=m+1:=⟨js S-k-1,oO⟩;rw[hm]at h2;injection h2 with e1 e2
  subst e1 e2;have hkb:k<1000:=by unfold js at h1;omega
  have hx:=hlen k;have hc:=hcat k;have ho:=hcat (k+1);have hc1:nX sd at' a k++sU sd at' a k=nX sd at' a (k+1):=rfl;have hgo:k+1<js S-> _:=fun h=>hRR (k+1) ⟨h,by rw[show js S-(k+1)=m from by omega]⟩
  clear hRR hit hb hcat hlen
  by_cases hf:S<=32*(k+1)
  ·have hk:js S=k+1:=by unfold js at h1⊢;omega
   rw[hk];clear hgo hR;have hd1: ∀ _:True,(8*(S:Int)-len).toNat=8*S-len:=fun _=>oO
   have hd2:8*S-len<8:=oO;have hd3:(if 8*S-len<=8 then 8*S-len else 8)=8*S-len:=by rw[ah];omega
   have hmask:=fun x:UInt8=>Rx ⟨8*S-len,hd2⟩ ⟨x.toNat,x.toNat_lt⟩
   simp only at hmask;generalize hd:8*S-len=d at*;generalize hcc:nX sd at' a (k+1)=o at*;obtain⟨x0,r,rfl⟩: ∃x0 r,o=x0::r:=by
    cases o with
    |nil=>simp at ho
    |cons x0 r=>exact⟨_,_,rfl⟩
   cases k with
   |zero=>
    generalize sU sd at' a 0=x at*;generalize nX sd at' a 0=c at*;obtain rfl:c=[]:=kX hc;obtain rfl:x=x0::r:=hc1;refine dH (aN @hx (aN @nB (aN (hd1 oT) (aN @hd3 @hmask)))) ?_;rw[vL hs1.1];simp only[<-nB];generalize hq:UInt8.ofNat (x0.toNat%2^(8-d))::r=q at*;have hql:q.length=32*(0+1):=by rw[<-hq];simpa using ho
    refine af (α:=Nat) (fun i=>S-i) (fun i=>⟨[(8, .p 1007 0 0)],[(1007,⟨0,[.rs 1014 0 i (S-i) 1],false,some 196⟩),(1014,⟨0,aG q,true,some 5⟩)],1037⟩) (fun i=>i<=S/\gI ((q.take S).drop i)=gI (q.take S)) 0 (fun _=>ay _) ⟨aJ _,rfl⟩ ?_ ?_
    ·refine AS.Le.of oC ?_ ?_<;>simp[dy,dx,aO,az,AV.bd,AV.bd.bdL,ax]
    ·rintro i ⟨hi,hst⟩ R2 hR2;rw[<-hst]
     by_cases hlt:i<S
     ·have e1:=MG (q:=q) hlt oO;have e2:=jE (l:=q) (i:=i) oO;have e3: ∀ _:True,((S-i:Nat):Int)=(S:Int)-i:=fun _=>oO
      have e4:=Iu q S i
      by_cases hz:q.getD i 0=0
      ·have hgo2:=hR2 (i+1) ⟨hlt,by rw[<-hst,e1,gI,ah hz]⟩ oO
       clear hR2;refine dH (aN @e2 @hz) ?_;refine hgo2 _ ?_;refine AS.Le.of oO ?_ ?_<;>simp[dy,dx,aO,az,AV.bd,AV.bd.bdL,ax,Nat.sub_sub]
      ·rw[e1,gI,ae hz,<-e1];have hz2: ∀ _:True,(((q.getD i 0).toNat:Int)==0)=false:=fun _=>by
        rw[ey];intro h;exact hz (jv.1 (by exact_mod_cast h))
       refine dH (aN @e2 (hz2 oT)) ?_;rw[e4];exact⟨⟨oO,rU _⟩,by rw[jD]⟩
     ·obtain rfl:i=S:=oO;refine xB ?_;rw[fA,List.take_zero,gU (by rw[bV];omega)]
      exact⟨⟨oO,fun y hy=>by cases hy⟩,rfl⟩
   |succ k=>
    dsimp only;generalize sU sd at' a (k+1)=x at*;generalize nX sd at' a (k+1)=c at*;have htk:List.take (32*(k+1)) (aG c)=aG c:=by rw[<-hc];exact jF _
    refine dH (aN @hx (aN @hc1 (aN @htk (aN @nB (aN (hd1 oT) (aN @hd3 @hmask)))))) ?_;rw[vL hs1.1];simp only[<-nB];generalize hq:UInt8.ofNat (x0.toNat%2^(8-d))::r=q at*;have hql:q.length=32*(k+1+1):=by rw[<-hq];simpa using ho
    refine af (α:=Nat) (fun i=>S-i) (fun i=>⟨[(8, .p 1007 0 0)],[(1007,⟨0,[.rs 1014 (k+1) i (S-i) 1],false,some 196⟩),(1014,⟨(k+1),aG q,true,some 5⟩)],1046⟩) (fun i=>i<=S/\gI ((q.take S).drop i)=gI (q.take S)) 0 (fun _=>ay _) ⟨aJ _,rfl⟩ ?_ ?_
    ·refine AS.Le.of oC ?_ ?_<;>simp[dy,dx,aO,az,AV.bd,AV.bd.bdL,ax]
    ·rintro i ⟨hi,hst⟩ R2 hR2;rw[<-hst]
     by_cases hlt:i<S
     ·have e1:=MG (q:=q) hlt oO;have e2:=jE (l:=q) (i:=i) oO;have e3: ∀ _:True,((S-i:Nat):Int)=(S:Int)-i:=fun _=>oO
      have e4:=Iu q S i
      by_cases hz:q.getD i 0=0
      ·have hgo2:=hR2 (i+1) ⟨hlt,by rw[<-hst,e1,gI,ah hz]⟩ oO
       clear hR2;refine dH (aN @e2 @hz) ?_;refine hgo2 _ ?_;refine AS.Le.of oO ?_ ?_<;>simp[dy,dx,aO,az,AV.bd,AV.bd.bdL,ax,Nat.sub_sub]
      ·rw[e1,gI,ae hz,<-e1];have hz2: ∀ _:True,(((q.getD i 0).toNat:Int)==0)=false:=fun _=>by
        rw[ey];intro h;exact hz (jv.1 (by exact_mod_cast h))
       refine dH (aN @e2 (hz2 oT)) ?_;rw[e4];exact⟨⟨oO,rU _⟩,by rw[jD]⟩
     ·obtain rfl:i=S:=oO;refine xB ?_;rw[fA,List.take_zero,gU (by rw[bV];omega)]
      exact⟨⟨oO,fun y hy=>by cases hy⟩,rfl⟩
  ·have hgo:=hgo (by unfold js;omega)
   cases k with
   |zero=>
    generalize sU sd at' a 0=x at*;refine dH @hx ?_;refine hgo _ ?_;have hx1:nX sd at' a 1=x:=hc1.symm;refine AS.Le.of oC ?_ ?_<;>simp[dy,dx,aO,az,AV.bd,AV.bd.bdL,hx1,ax]
   |succ k=>
    have htk:List.take (32*(k+1)) (aG (nX sd at' a (k+1)))=aG (nX sd at' a (k+1)):=by rw[<-hc];exact jF _
    generalize sU sd at' a (k+1)=x at*;repeat' first|simp only[go_sem,seval,hx,hc1]|refine oE ?_|apply xX<;>intro hc
    all_goals first
     |omega
     |skip
    refine hgo _ ?_;refine AS.Le.of oC ?_ ?_<;>simp[dy,dx,aO,az,AV.bd,AV.bd.bdL,htk,kG,hc1,ax];omega
theorem AB: ∀l:Bytes,(gI l).length<=l.length
 |[]=>ay _
 |x::r=>by
  rw[gI];split
  ·have:=AB r;rw[List.length_cons];omega
  ·exact ay _
theorem w9: ∀l:Bytes,((gI l).length==0||(gI l).headD 0 !=0)=true
 |[]=>rfl
 |x::r=>by
  rw[gI];split
  ·exact w9 r
  ·rename_i h;simp[h]
theorem Kn (l:Bytes) (d:Nat):(IT l d).length=l.length:=by cases l<;>rfl
theorem rQ (sd:Bytes) (at' a:Nat) (h:len<=1024):aa (yQ sd at' a len)=true:=by
 unfold aa;rw[aZ];refine⟨aI ?_,w9 _⟩;have:=AB (IT ((nX sd at' a (js ((len+7)/8))).take ((len+7)/8)) (8*((len+7)/8)-len));rw[Kn,bV]at this;unfold yQ;omega
def rp (f:Nat->Bytes) (n a:Nat):Nat->Option Bytes
 |0=>none
 |k+1=>if num (f a)<n then some (f a)else rp f n (a+1) k
def gb (vs:List Bytes) (sd:Bytes) (i:Nat) (n:Bytes):Except Int Bytes:=
 if i<vs.length then(if num n<=num (vs.getD i [])then .error 2 else .ok (vs.getD i []))
 else if sd=[]\/i=2147483647 then .error 14
 else match rp (fun a=>yQ sd i a (cE (num n))) (num n) 0 256 with
  |some x=> .ok x
  |none=> .error 14
def jS (vs:List Bytes) (sd:Bytes) (i:Nat):Except Int Bytes->PV
 | .ok x=> .tup [.s x,T vs sd (i+1:Nat),E 0]
 | .error e=> .tup [.s [],T [] [] 0,E e]
theorem yU (hn:aa n=true):cE (num n)<=1024:=by
 have h1:=cL n;have h2:n.length<=128:=by
  unfold aa at hn;rw[aZ]at hn;exact of_decide_eq_true hn.1
 have h3:num n<2^1024:=bH h1 (by rw[show(2:Nat)^1024=256^128 by decide+kernel];exact dF oC h2)
 unfold cE;split
 ·omega
 ·rename_i h;have:=(yF h).2 h3;omega
theorem qe (x y:Nat):decide (ba x y<0)=decide (x<y):=by
 have e:=y5 x y;rw[eq_iff_iff]at e;rw[lF];omega
theorem Kc (x y:Nat):decide (ba x y>=0)= !decide (x<y):=by
 have e:=y5 x y;rw[eq_iff_iff]at e
 by_cases h:x<y
 ·rw[aI h,aH (fun g=>by have:=e.1 g;omega)];rfl
 ·rw[aH h,aI (e.2 oO)];rfl
theorem zk (hv:vs.all aa=true) (hn:aa n=true) (h0:num n≠0) (hi:i<=2147483647) (hl:vs.length<1000000) (hsd:sd.length<1000000):aD 132 [T vs sd i, .s n] (jS vs sd i (gb vs sd i n)):=by
 by_cases hiv:i<vs.length
 ·have h:=QX sd hv hn hiv hl;unfold MF at h;unfold gb;rw[ah hiv];split
  ·rename_i hle;rw[ah hle]at h;exact h
  ·rename_i hle;rw[ae hle]at h;exact h
 unfold gb;rw[ae hiv]
 by_cases hs:sd=[]\/i=2147483647
 ·rw[ah hs];have hnl: ∀ _:True,(([]:Bytes)==[])=true:=fun _=>rfl
  have h47: ∀ _:True,((2147483647:Int)==2147483647)=true:=fun _=>rfl
  rcases hs with rfl|rfl
  ·refine eW call132 func132 ?_;exact gn (hnl oT)
  ·cases hsb:sd==[]with
   |true=>
    refine eW call132 func132 ?_;exact gn @hsb
   |false=>
    refine eW call132 func132 ?_;exact gn (aN @hsb (h47 oT))
 rw[ae hs];have hs1:sd≠[]:=fun h=>hs (.inl h)
 have hs2:i≠2147483647:=fun h=>hs (.inr h)
 have hbl:=yU hn;have hb0:0<cE (num n):=by unfold cE;rw[ae h0];omega
 have hB:=xC hn;have hA:=fun a (ha:a<256)=>Gs (vs:=vs) (sd:=sd) (at':=i) (a:=a) (len:=cE (num n)) hl hsd oO oO hb0 oO
 have hC:=fun a=>mN (yQ sd i a (cE (num n))) n
 have hV:=fun a=>rQ sd i a hbl
 obtain⟨r1,r2,r3,r4⟩:=OA vs;have hsb:(sd==[])=false:=by rw[ey];exact hs1
 have hi47: ∀ _:True,((i:Int)==2147483647)=false:=fun _=>by rw[ey];omega
 generalize hf:(fun a=>yQ sd i a (cE (num n)))=f
 have hA: ∀a:Nat,a<256->aD 243 [T vs sd i, .i .i64 a, .i .i64 (cE (num n))] (.s (f a)):=by rw[<-hf];exact hA
 have hC: ∀a,aD 30 [.s (f a), .s n] (E (ba (num (f a)) (num n))):=by
  intro a;have h:=hC a;rw[hV,hn]at h;rw[<-hf];exact h
 refine eW call132 func132 ?_;refine dH (aN @hsb (hi47 oT)) ?_;refine⟨⟨fun x hx=>my hx,fun y hy=>vT hy,by rw[mS];exact ay _⟩,?_⟩
 refine af (α:=Nat) (fun a=>256-a) (fun a=>⟨[(73, .v (.i .i64 a)),(1, .v (.s n)),(2, .p 1000 0 0),(5, .p 1002 0 0),(7, .p 1047 0 0)],[(1000,⟨0,[.v (.sl (vs.map .s)), .v (.s sd), .v (.i .i64 i)],false,none⟩),(1002,⟨0,[.sn, .v (.s []), .v (.i .i64 0)],false,some 37⟩),(1040,⟨0,List.map AV.v (vs.map .s),false,none⟩),(1047,⟨0,[.rs 1040 0 0 vs.length 1, .v (.s sd), .v (.i .i64 ((i:Int)+1))],false,some 37⟩)],1061⟩) (fun a=>a<=256/\rp f (num n) a (256-a)=rp f (num n) 0 256) 0 (fun _=>ay _) ⟨aJ _,rfl⟩ ?_ ?_
 ·refine AS.Le.of oC ?_ ?_<;>simp[dy,dx,aO,az,AV.bd,AV.bd.bdL,qg,r1,r3];rw[cb (by simp)]
 ·rintro a ⟨ha,hst⟩ R hR;rw[<-hst]
  by_cases hlt:a<256
  ·obtain⟨m,hm⟩: ∃m,256-a=m+1:=⟨255-a,oO⟩;have hAa:=hA a hlt;have hCa:=hC a;have hgo:=hR (a+1);rw[hm,rp]
   by_cases hle:num (f a)<num n
   ·rw[ah hle];have hcm: ∀ _:True,decide (ba (num (f a)) (num n)<0)=true:=fun _=>by rw[qe];exact aI hle
    generalize ba (num (f a)) (num n)=cm at*;repeat' first|simp only[go_sem,seval,hcm oT,r1,r2,r3,r4,qg,eQ]|refine cP hB ?_|refine cP hAa ?_|refine cP hCa ?_|refine oE ?_|apply xX<;>intro hc
    rfl
   ·rw[ae hle];have hgo:=hgo ⟨hlt,by rw[<-hst,hm,rp,ae hle,show 256-(a+1)=m from by omega]⟩ oO
    have hcm: ∀ _:True,decide (ba (num (f a)) (num n)<0)=false:=fun _=>by rw[qe];exact aH hle
    generalize ba (num (f a)) (num n)=cm at*;refine wI (hcm oT) @hB @hAa @hCa oT ?_;refine hgo _ ?_;refine AS.Le.of oC ?_ ?_<;>simp[dy,dx,aO,az,AV.bd,AV.bd.bdL]
  ·obtain rfl:a=256:=oO;exact z0
theorem Ht (hv:vs.all aa=true) (hn:aa n=true) (h0:n≠[]) (hi:i<=2147483647):wk vs i n=0:=by
 have h1:(vs.any fun x=> !aa x)=false:=by
  rw[fy];intro g;obtain⟨x,hx,h⟩:=List.any_eq_true.1 g;simp[bM.1 hv x hx]at h
 have h2:e9 vs i=true:=by
  unfold e9;rw[h1,aI (show(i:Int)>=0 by omega),aI (show(i:Int)<=2147483647 by omega)];rfl
 simp[wk,h2,hn,h0]
theorem vP (hn:aa n=true) (h0:n≠[]):num n≠0:=fun h=>h0 ((tK hn).1 h)
theorem uY (hv:vs.all aa=true) (hn:aa n=true) (h0:n≠[]) (hi:i<=2147483647) (hl:vs.length<1000000) (hsd:sd.length<1000000):aD 122 [T vs sd i, .s n] (jS vs sd i (gb vs sd i n)):=by
 have h1:=tW vs sd i n oO;rw[Ht hv hn h0 hi]at h1;have h2:=zk (sd:=sd) hv hn (vP hn h0) hi hl hsd;generalize gb vs sd i n=r at*
 cases r with
 |ok x=>
  unfold jS at*;refine eW call122 func122 ?_;exact z2 @h1 @h2
 |error e=>
  unfold jS at*;refine eW call122 func122 ?_;exact z2 @h1 @h2
theorem Tf (m:Nat) (h:m<10):List.drop m (48::List.take m ([49,50,51,52,53,54,55,56,57]:Bytes))=[UInt8.ofNat (48+m)]:=by
 have:=UT ⟨m,h⟩;unfold iq at this;simp only at this;rw[ah h]at this;exact this
theorem qR (n:Nat) (hn:n<4294967296):aD 95 [.i .i64 (n:Int)] (.s (Lib.decDigits n)):=by
 induction n using Nat.strongRecOn with
 | _ n ih=>
 by_cases h:n<10
 ·have hb:=Tf n h;rw[Lib.decDigits_one h];have t1: ∀ _:True,((n:Int)+1).toNat=n+1:=fun _=>oO
  refine eW call95 func95 ?_;repeat' first|simp only[go_sem,seval,t1 oT]|refine oE ?_|apply xX<;>intro hc
  all_goals first|omega|exact congrArg PV.s hb|skip
 ·have h1:=ih (n/10) oO oO;have hb:=Tf (n%10) (aL _ oC);have t1: ∀ _:True,(((n%10:Nat):Int)+1).toNat=n%10+1:=fun _=>oO
  have l1:=oX (n:=n/10) oO;rw[Lib.decDigits,dif_neg h];refine eW call95 func95 ?_;refine kz (t1 oT) @h1 ?_;rw[hb];exact⟨by simp;omega,rfl,rfl⟩
theorem CA {α:Type} (l:List α) (p:α->Bool):(l.any fun x=> !p x)= !l.all p:=by
 induction l with
 |nil=>rfl
 |cons x l ih=>rw[List.any_cons,List.all_cons,ih];cases p x<;>simp
theorem tq {a:Int} (h:e9 vs a=true):vs.all aa=true/\0<=a/\a<=2147483647:=by
 unfold e9 at h;rw[CA,ux]at h;simp only[aZ,cq]at h;exact⟨h.2,h.1.1,h.1.2⟩
theorem oz (h:vs.all aa=true) (hi:i<=2147483647):e9 vs i=true:=by
 unfold e9;rw[CA,h,aI (show(i:Int)>=0 by omega),aI (show(i:Int)<=2147483647 by omega)];rfl
def uo (k:Bytes) (c:UInt8) (i:Nat):Bytes:=(List.range 64).map fun j=>if j<i then k.getD j 0^^^c else 0
theorem qE (k:Bytes) (c:UInt8) (i:Nat):(uo k c i).length=64:=by simp[uo]
theorem Pp (k:Bytes) (c:UInt8):uo k c 64=pT k c:=by
 unfold uo pT kD;refine lD ?_;intro j hj;rw[dV]at hj;rw[ah hj,ah hj]
theorem Pq {k:Bytes} {c:UInt8} (h:i<64):(uo k c i).set i (k.getD i 0^^^c)=uo k c (i+1):=by
 apply qV
 ·simp[uo]
 ·intro n h1 h2;rw[DQ];simp only[uo,Ek,Eg]
  by_cases hn:i=n
  ·subst hn;simp
  ·rw[ae hn];have:(n<i)=(n<i+1):=by simp;omega
   simp only[this]
theorem AM (k:Bytes) (c:UInt8):(pT k c).length=64:=eJ k c 64
theorem S9 (l:Bytes) {o:Nat} (c:UInt8) (h:o<l.length):(aG l).take o++[.v (.i .u8 (c.toNat:Int))]++(aG l).drop (o+1)=aG (l.set o c):=by rw[fw];exact Mk l c h
theorem Gh (k:Bytes) (c:UInt8):aD 475 [.s k, .i .u8 (c.toNat:Int)] (.s (pT k c)):=by
 have z:aG (uo k c 0)=List.replicate 64 (.v (.i .u8 0)):=rfl;refine eW call475 func475 ?_;refine pU ?_;refine af (α:=Nat) (fun i=>64-i) (fun i=>⟨[(0, .v (.s k)),(1, .v (.i .u8 (c.toNat:Int))),(5, .rs 1001 0 0 64 1),(6,E' i)],[(1001,⟨0,aG (uo k c i),false,none⟩)],_⟩) (fun i=>i<=64) 0 (fun _=>ay _) (aJ _) ?_ ?_
 ·rw[z];exact lE
 ·intro i hi R hR
  by_cases hlt:i<64
  ·have hgo:=hR (i+1) oO oO;rw[<-Pq hlt]at hgo;have b1:=S9 (uo k c i) (o:=i) c (by rw[qE];exact hlt)
   have b2:=S9 ((uo k c i).set i c) (o:=i) (k.getD i 0^^^c) (by rw[ft,qE];exact hlt)
   rw[xZ]at b2;have g3:=Po (k.getD i 0) c
   by_cases hik:i<k.length
   ·repeat' first|simp only[go_sem,seval,b1,b2,g3,qE,ft]|refine oE ?_|apply xX<;>intro hc
    refine hgo _ ?_;exact lE
   ·have e0:k.getD i 0=0:=by rw[bu,iS oO];rfl
    rw[e0,UInt8.zero_xor]at hgo;exact jC (aN @b1 @qE) @hgo
  ·obtain rfl:i=64:=oO;have t1:List.take 64 (aG (uo k c 64))=aG (uo k c 64):=cb (by rw[kH,qE];exact ay _)
   refine dH @t1 ?_;rw[Pp];exact⟨⟨by rw[AM];exact ay _,rU _⟩,by rw[jD]⟩
theorem KV (l:Bytes) (hl:l.length<1000000):aD 457 [.s l] (.s (gI l)):=by
 refine eW call457 func457 ?_;refine pU ?_;refine af (α:=Bytes) (fun x=>x.length) (fun x=>⟨[(0, .v (.s x))],[],_⟩) (fun x=>x.length<1000000/\gI x=gI l) l (fun _=>ay _) ⟨hl,rfl⟩ ?_ ?_
 ·exact lE
 ·rintro x ⟨hx,he⟩ R hR;rw[<-he]
  cases x with
  |nil=>
   exact z0
  |cons y r=>
   have hgo:=hR r;simp only[gI]
   by_cases hy:y=0
   ·rw[ah hy];simp only[gI,ah hy]at he;have hg2:=hgo ⟨by simp at hx;omega,he⟩ (by simp)
    clear hgo hR;subst hy;exact zg0 @hg2
   ·rw[ae hy];have hz: ∀ _:True,((y.toNat:Int)==0)=false:=fun _=>by
     rw[ey];intro h;exact hy (jv.1 (by exact_mod_cast h))
    clear hgo hR;exact gn (hz oT)
theorem Sf {k s:Bytes} (hk:k.length<1000000) (hs:s.length<1000000):aD 456 [.s k, .s s] (.s (C6 k s)):=by
 have h1:=Gh (ql k) 92;have h2:=Gh (ql k) 54;have h3:=xP (s:=pT (ql k) 54++s) (by rw[bJ];have:=eJ (ql k) 54 64;unfold pT;omega)
 have h4:=xP (s:=pT (ql k) 92++me (pT (ql k) 54++s)) (by rw[bJ,fH];have:=eJ (ql k) 92 64;unfold pT;omega)
 have g1:((92:UInt8).toNat:Int)=92:=rfl;have g2:((54:UInt8).toNat:Int)=54:=rfl;rw[g1]at h1;rw[g2]at h2;have hz:=xP (s:=k) oO;unfold C6;unfold ql at*
 by_cases hl:k.length>64
 ·rw[ah hl]at*;refine eW call456 func456 ?_;exact AU (aN @AM @fH) @hz @h1 @h2 @h3 @h4 oT oT
 ·rw[ae hl]at*;refine eW call456 func456 ?_;exact yG (aN @AM @fH) @h1 @h2 @h3 @h4
