/- Part of the proof. -/
import Derived.Test.YtkmahpcpmgedkaaGreatDoorFC43
set_option linter.all false
set_option maxHeartbeats 16000000
set_option maxRecDepth 100000
namespace Go.Proofs.Tryz
open Go Go.Dom Go.Num
variable {a i j k n q x:Nat} {e o:Bytes} {xs ys:List Nat}
def oK (n:Nat) (l:List Int):List Int:=(List.range n).map fun j=>l.getD j 0
def tC (q:Int) (p:List Int) (a:Int) (n k:Nat):List Int:=(List.range n).map fun t=>if t<k then(mc q p a).getD t 0 else if t=k then(0::p).getD t 0 else 0
theorem Hm (f:Nat->Int) (h:j<n):((List.range n).map f).getD j 0=f j:=by
 rw[br,dG,jI h];rfl
theorem tF (n:Nat) (l:List Int):(oK n l).length=n:=by simp[oK]
theorem Fc (l:List Int) (h:j<n):(oK n l).getD j 0=l.getD j 0:=Hm _ h
theorem tD (q:Int) (p:List Int) (a:Int) (n k:Nat):(tC q p a n k).length=n:=by simp[tC]
theorem XE (q:Int) (p:List Int) (a:Int) (n:Nat):tN (tC q p a n 0)=List.replicate n 0:=by
 unfold tN tC;refine nU fun t=> ?_
 by_cases ht:t<n
 ·rw[dG,dG,jI ht,xS,ah ht]
  cases t with
  |zero=>simp
  |succ t=>simp
 ·rw[jJ (by simp;omega),jJ (by simp;omega)]
theorem Va (q:Int) (p:List Int) (a:Int) (h:k<n):(tC q p a n k).getD k 0=(0::p).getD k 0:=by
 rw[tC,Hm _ h,ae oO,ah rfl]
theorem NC (q:Int) (p:List Int) (a:Int) (h:k+1<n):(tC q p a n k).getD (k+1) 0=0:=by
 rw[tC,Hm _ h,ae oO,ae oO]
theorem ND (q:Int) (p:List Int) (a:Int) (h:k+1<n):((tC q p a n k).set k ((mc q p a).getD k 0)).set (k+1) (p.getD k 0)=tC q p a n (k+1):=by
 refine nU fun t=> ?_
 by_cases ht:t<n
 ·rw[nX,nX,tC,tC,dG,dG,jI ht];simp only[fA,aC,pK,Option.map_some]
  by_cases e:k+1=t
  ·subst e;rw[ah rfl,ah h,ae oO,ah rfl];rfl
  ·rw[ae e]
   by_cases e2:k=t
   ·subst e2;rw[ah rfl,ah oO,ah oO]
   ·rw[ae e2]
    by_cases e3:t<k
    ·rw[ah e3,ah oO]
    ·rw[ae e3,ae oO,ae oO,ae oO]
 ·rw[jJ (by rw[fA,fA,tD];omega),jJ (by rw[tD];omega)]
theorem NB (q:Int) (p:List Int) (a:Int) (h:k+1=n):(tC q p a n k).set k ((mc q p a).getD k 0)=tC q p a n (k+1):=by
 refine nU fun t=> ?_
 by_cases ht:t<n
 ·rw[nX,tC,tC,dG,dG,jI ht];simp only[aC,pK,Option.map_some]
  by_cases e2:k=t
  ·subst e2;rw[ah rfl,ah oO,ah oO]
  ·rw[ae e2,ah oO,ah oO]
 ·rw[jJ (by rw[fA,tD];omega),jJ (by rw[tD];omega)]
theorem Rs (q:Int) (p:List Int) (a:Int) (n:Nat):tC q p a n n=oK n (mc q p a):=by
 unfold tC oK;exact nS fun t ht=>by rw[ah (dW.1 ht)]
theorem NT (h:0<n):(List.replicate n 0).set 0 1=tN (oK n [1]):=by
 refine nU fun t=> ?_
 by_cases ht:t<n
 ·rw[nX,tN,oK,dG,dG,jI ht]
  cases t with
  |zero=>simp[h]
  |succ t=>rw[ae oO,xS,ah ht];rfl
 ·rw[jJ (by simp;omega),jJ (by rw[jH,tF];omega)]
theorem EW (q a:Int) (p:List Int) (k:Nat):(mc q p a).getD k 0=((0::p).getD k 0-p.getD k 0*a%q)%q:=GM q a p k
theorem AM (hq:q<(2^64)) (h1:1<q) (hx: ∀a∈xs,a<(2^64)) (hy: ∀a∈ys,a<(2^64)) (hl:ys.length=xs.length) (hxl:xs.length<1000000) (hg: ∀i,i<xs.length->Nat.gcd (wH q (xs.getD i 0:Nat) ((nI xs).eraseIdx i)).toNat q=1):aE 224 [N q, .sl (xs.map cZ), .sl (ys.map cZ)] (.sl ((sC q xs ys).map cZ)):=by
 have q0:0<q:=oO;obtain⟨n,hn⟩: ∃n,n=xs.length:=⟨_,rfl⟩;have lX:(xs.map cZ).length=n:=by rw[aC,hn]
 have lY:ys.length=n:=by rw[hl,hn]
 have lI:(nI xs).length=n:=by rw[sf,hn]
 obtain⟨P,hP⟩: ∃P:Nat->List Int,P=fun k=>AK q ((nI xs).eraseIdx k):=⟨_,rfl⟩
 obtain⟨f,hf⟩: ∃f:Nat->Int,f=fN q xs ys:=⟨_,rfl⟩;have hT:sC q xs ys=tN (fg q P f n n 0):=by
  unfold sC;rw[<-lI,hP,Fb,hf]
 rw[hT];have r0:tN (fg q P f n 0 0)=List.replicate n 0:=by rw[NS];simp[tN]
 have rl: ∀i,(tN (fg q P f n i 0)).length=n:=fun i=>by rw[jH,lZ]
 have o1:aE 55 [.i .u64 1] (N 1):=ie 1 oC;have w2:=ka;have md:=js (a:=1) (m:=q) oO oO q0;rw[b9 h1]at md;clear hT;refine eW call224 func224 ?_;repeat' first|simp only[go_sem,seval,lX,fX]|refine oE ?_|apply xX<;>intro hc
 refine af (α:=Nat) (fun i=>n-i) (fun i=>⟨[(0, .v (N q)),(1, .v (.sl (xs.map cZ))),(2, .v (.sl (ys.map cZ))),(7,E' n),(8, .rs 1005 0 0 n 1),(9,E' i)],[(1005,⟨0,aD (tN (fg q P f n i 0)),false,none⟩)],_⟩) (fun i=>i<=n) 0 (fun _=>aA _) (aI _) ?_ ?_
 ·rw[r0];refine lG ?_;all_goals exact fun c hc=>dS hc
 ·intro i hi Ro hRo
  by_cases hlt:i<n
  ·have hi':i<xs.length:=oO;have hpos:0<n:=oO;obtain⟨x,hxi⟩: ∃x:Nat,x=xs.getD i 0:=⟨_,rfl⟩;obtain⟨L,hL⟩: ∃L:List Int,L=nI xs:=⟨_,rfl⟩;have hgi:=hg i hi';rw[<-hL,<-hxi]at hgi;have hfi0:f i=((ys.getD i 0*fR (wH q x (L.eraseIdx i)).toNat q%q:Nat):Int):=by rw[hf,hL,hxi];rfl
   have hpi:P i=AK q (L.eraseIdx i):=by rw[hP,hL]
   have z0:(aD (List.replicate n 0)).length=n:=by rw[bA,xN]
   have z1:AV.v (N 1)::List.drop 1 (aD (List.replicate n 0))=aD (tN (oK n [1])):=by
    rw[<-NT hpos];exact dU (l:=List.replicate n 0) (o:=0) (x:=1) (by simpa using hpos)
   have hroP:=hRo;clear hg hRo;repeat' first|simp only[go_sem,seval,lX,fX,z0,z1]|refine cP o1 ?_|refine cP md ?_|refine oE ?_|apply xX<;>intro hc
   have pl:=fun p=>(show(tN (oK n p)).length=n by rw[jH,tF])
   have py1:=dp (pl [1]);have py2:=eQ (tN (oK n [1]));have py3:=dJ (pl [1]);have py4:(aD (tN (oK n [1]))).length=n:=by rw[bA,pl]
   refine af (α:=Nat) (fun k=>n-k) (fun k=>⟨[(10, .v (.sl ((tN (oK n (AK q (pV L i k)))).map cZ))),(0, .v (N q)),(1, .v (.sl (xs.map cZ))),(2, .v (.sl (ys.map cZ))),(7,E' n),(8, .rs 1005 0 0 n 1),(9,E' i),(11, .v (N (wH q x (pV L i k)).toNat)),(12,E' k)],[(1005,⟨0,aD (tN (fg q P f n i 0)),false,none⟩)],1023⟩) (fun k=>k<=n) 0 (fun _=>bQ rfl) (aI _) ?_ ?_
   ·have ex0:AK (q:Int) (pV L i 0)=[1]:=by rw[MD];rfl
    have ex1:N (wH (q:Int) x (pV L i 0)).toNat=N 1:=by rw[MD];rfl
    simp only[ex0,ex1];refine AS.Le.NG [(10, .sl ((tN (oK n [1])).map cZ))] [1012] (fun m hm=>by rw[cR.1 hm];exact⟨by decide,rfl⟩) (by intro p hp;rw[cR.1 hp];simp[aP,ay,view,aU,py1,py2,py3,py4,dE,gQ]) (by first|decide|omega) ?_ ?_
    all_goals simp[dC,dA,aP,ay,AV.bd,AV.bd.bdL]
    all_goals exact fun c hc=>dS hc
   ·intro k hk R hR
    by_cases hkn:k<n
    ·have e2:=pf xs (i:=k) oO
     by_cases hki:k=i
     ·have hex:pV L i (k+1)=pV L i k:=by rw[hki];exact ME (by rw[hL];omega)
      have hgo:=hR (k+1) oO oO;rw[hex]at hgo;clear hR hroP;refine dI @lX ?_;refine hgo _ ?_;refine lG ?_;all_goals exact fun c hc=>dS hc
     ·have hex:pV L i (k+1)=pV L i k++[((xs.getD k 0:Nat):Int)]:=by rw[MF (by rw[hL];omega) hki,hL,tx]
      have hgo:=hR (k+1) oO oO;simp only[hex,EU,FG]at hgo;have xk:=hx _ (an 0 (show k<xs.length by omega))
      have xi:=hx _ (an 0 hi');rw[<-hxi]at xi;have e3:=pf xs hi';rw[<-hxi]at e3;have hnki: ¬((k:Int)=(i:Int)):=oO;have hsi:=vO (q:=(q:Int)) oO x (pV L i k);have hin:=CM (q:=(q:Int)) oO (pV L i k);generalize AK (q:Int) (pV L i k)=p at*;obtain⟨s0,hs0⟩:=j6 hsi;rw[hs0]at hsi hgo⊢;rw[Int.toNat_natCast];generalize xs.getD k 0=y at*;have d1:=Ob (a:=x) (b:=y) (q:=q) xi xk hq q0;obtain⟨dn,hdn⟩:=j6 (q:=(q:Int)) ⟨gU (((x:Nat):Int)-(y:Nat)) oO,ig _ oO⟩;have hdl:=ig (((x:Nat):Int)-(y:Nat)) (show(0:Int)<q by omega)
      rw[hdn]at hdl hgo d1;rw[show(((s0:Nat):Int)*(dn:Nat)%(q:Nat))=((s0*dn%q:Nat):Int) by push_cast;rfl]at hgo
      rw[Int.toNat_natCast]at hgo d1;have d2:=zS (a:=s0) (b:=dn) (q:=q) oO oO hq q0;generalize s0*dn%q=s2 at*;have z2:aD (List.replicate n 0)=aD (tN (tC q p y n 0)):=by rw[XE]
      clear hR hroP hfi0 hpi hgi hdn hs0;repeat' first|simp only[go_sem,seval,lX,fX,gR,hnki]|refine oE ?_|apply xX<;>intro hc
      have plp:=pl p;have nl:=fun j=>(show(tN (tC q p y n j)).length=n by rw[jH,tD])
      refine af (α:=Nat) (fun j=>n-j) (fun j=>⟨[(0, .v (N q)),(1, .v (.sl (xs.map cZ))),(2, .v (.sl (ys.map cZ))),(7,E' n),(8, .rs 1005 0 0 n 1),(9,E' i),(10, .v (.sl ((tN (oK n p)).map cZ))),(11, .v (N s0)),(12,E' k),(13, .rs 1030 0 0 n 1),(14,E' j)],[(1005,⟨0,aD (tN (fg q P f n i 0)),false,none⟩),(1030,⟨0,aD (tN (tC q p y n j)),false,none⟩)],1033⟩) (fun j=>j<=n) 0 (fun _=>bQ rfl) (aI _) ?_ ?_
      ·rw[<-z2];refine lG ?_;all_goals exact⟨fun c hc=>dS hc,fun c hc=>dS hc⟩
      ·intro j hj R hR
       by_cases hjn:j<n
       ·have hg2:=hR (j+1) oO oO;have e4:=Bt (oK n p) (i:=j) (by rw[tF];exact hjn)
        rw[Fc p hjn]at e4;have hm:=EW (q:Int) y p j;obtain⟨c,hc⟩:=j6 (hin j);have hcq:=(hin j).2;obtain⟨v,hv⟩:=j6 (x:=(0::p).getD j 0) (q:=q) (by
         cases j with
         |zero=>exact⟨mB _,by simp;omega⟩
         |succ j=>exact hin j)
        have hvq:v<q:=by
         have:(0::p).getD j 0<(q:Int):=by
          cases j with
          |zero=>simp;omega
          |succ j=>exact(hin j).2
         omega
        rw[hc,hv]at hm;rw[hc]at hcq e4;rw[Int.toNat_natCast]at e4;have na:=Va (q:Int) p y hjn;rw[hv]at na;have m2:=zS (a:=c) (b:=y) (q:=q) oO xk hq q0;have m3:=Ob (a:=v) (b:=c*y%q) (q:=q) oO (by have:=aL (c*y) q0;omega) hq q0
        rw[show(((c*y%q:Nat):Int))=(c:Int)*y%q by push_cast;rfl,<-hm]at m3
        have m4:=G4 (a:=0) (b:=c) (q:=q) oC oO hq q0;rw[dF,b9 oO]at m4;have nlj:=nl j;have g0:(aD (tN (tC q p y n j))).length=n:=by rw[bA,nlj]
        have g1:(aD (tN (tC q p y n j))).getD j .u= .v (N v):=by rw[fW oO,j8,na];rfl
        have hs1:=pB (tC q p y n j) j ((mc q p y).getD j 0)
        by_cases hj1:j+1<n
        ·have nn2:=NC (q:Int) p y hj1;have st:=ND (q:Int) p y hj1;rw[hc]at st;have hs2:=pB ((tC q p y n j).set j ((mc q p y).getD j 0)) (j+1) (c:Int);rw[st,<-hs1,Int.toNat_natCast]at hs2;rw[<-hs2]at hg2;have na2:((tN (tC q p y n j)).set j ((mc q p y).getD j 0).toNat).getD (j+1) 0=0:=by
          have:(tN (tC q p y n j)).getD (j+1) 0=0:=by rw[j8,nn2];rfl
          rw[br,DA oO,<-br];exact this
         generalize ((mc q p y).getD j 0).toNat=w at*;generalize tN (tC q p y n j)=R0 at*;have g2:List.take j (aD R0)++[AV.v (.s (aY w))]++List.drop (j+1) (aD R0)=aD (R0.set j w):=dU oO;have g3:(aD (R0.set j w)).getD (j+1) .u= .v (N 0):=by rw[fW (by rw[fA];omega),na2]
         have g4:(aD (R0.set j w)).length=n:=by rw[bA,fA,nlj]
         have g5:List.take (j+1) (aD (R0.set j w))++[AV.v (.s (aY c))]++List.drop (j+1+1) (aD (R0.set j w))=aD ((R0.set j w).set (j+1) c):=dU (by rw[fA];omega)
         have ht1: ∀ _:True,((j:Int)+1).toNat=j+1:=fun _=>oO
         have hb1: ∀ _:True,decide ((j:Int)+1<(n:Int))=true:=fun _=>aJ oO
         clear hR hgo hin nl nn2 st hs1 hs2 na hm hv hc;refine vZ (aN @lX (aN @plp (aN @e2 (aN @e4 (aN @g0 (aN @g1 (aN @g2 (aN @g3 (aN @g4 (aN @g5 (aN (ht1 oT) (hb1 oT)))))))))))) @m2 @m3 @m4 oT ?_;refine hg2 _ ?_;refine lG ?_;all_goals exact⟨fun c hc=>dS hc,fun c hc=>dS hc⟩
        ·have st:=NB (q:Int) p y (show j+1=n by omega)
         rw[st]at hs1;rw[<-hs1]at hg2;generalize ((mc q p y).getD j 0).toNat=w at*;generalize tN (tC q p y n j)=R0 at*;have g2:List.take j (aD R0)++[AV.v (.s (aY w))]++List.drop (j+1) (aD R0)=aD (R0.set j w):=dU oO;have g4:(aD (R0.set j w)).length=n:=by rw[bA,fA,nlj]
         have hb1: ∀ _:True,decide ((j:Int)+1<(n:Int))=false:=fun _=>aG oO
         clear hR hgo hin nl st hs1 na hm hv hc;refine qC (aN @lX (aN @plp (aN @e2 (aN @e4 (aN @g0 (aN @g1 (aN @g2 (aN @g4 (hb1 oT))))))))) @m2 @m3 ?_;refine hg2 _ ?_;refine lG ?_;all_goals exact⟨fun c hc=>dS hc,fun c hc=>dS hc⟩
       ·obtain rfl:j=n:=oO;clear hR;have hend:=Rs (q:Int) p y j;rw[hend];generalize mc (q:Int) p y=p2 at*;have k1:=dp (pl p2);have k2:=eQ (tN (oK j p2));have k3:=dJ (pl p2);have k4:(aD (tN (oK j p2))).length=j:=by rw[bA,pl]
        clear nl z2 hend hin;refine qC (aN @lX (aN @e2 @e3)) @d1 @d2 ?_;refine hgo _ ?_;refine AS.Le.NG [(10, .sl ((tN (oK j p2)).map cZ))] [1030] (fun m hm=>by rw[cR.1 hm];exact⟨by decide,rfl⟩) (by intro p hp;rw[cR.1 hp];simp[aP,ay,view,aU,k1,k2,k3,k4,dE,gQ]) (by first|decide|omega) ?_ ?_
        all_goals simp[dC,dA,aP,ay,AV.bd,AV.bd.bdL]
        all_goals exact fun c hc=>dS hc
    ·obtain rfl:k=n:=oO;have hLl:L.length=k:=by rw[hL,lI]
     have hxe:pV L i k=L.eraseIdx i:=by rw[<-hLl];exact Ig L i
     rw[hxe,<-hpi];have hsi:=vO (q:=(q:Int)) oO x (L.eraseIdx i);have hin:Lv (q:Int) (P i):=by rw[hpi];exact CM oO _
     obtain⟨s,hs⟩:=j6 hsi;rw[hs]at hgi hsi hfi0⊢;rw[Int.toNat_natCast]at hgi hfi0⊢;have hPi:P i=(P i):=rfl;obtain⟨p,hpp⟩: ∃p,p=P i:=⟨_,rfl⟩;rw[<-hpp]at hin⊢;have plp:=pl p;have yi:=hy _ (an 0 (show i<ys.length by omega))
     have e5:=pf ys (i:=i) oO;have lY':(ys.map cZ).length=k:=by rw[aC,lY]
     generalize ys.getD i 0=yv at*;obtain⟨fi,hfi⟩: ∃fi:Nat,f i=fi:=⟨_,hfi0⟩;have hfv:fi=yv*fR s q%q:=by rw[hfi]at hfi0;exact Int.ofNat.inj hfi0
     have hiv:=(gL q0 hgi).inv.1;have hgi2:=hgi;clear hR hgi hs hxe;repeat' first|simp only[go_sem,seval,lX]|refine oE ?_|apply xX<;>intro hc
     refine af (α:=Nat) (fun j=>k-j) (fun j=>⟨[(0, .v (N q)),(1, .v (.sl (xs.map cZ))),(2, .v (.sl (ys.map cZ))),(7,E' k),(8, .rs 1005 0 0 k 1),(9,E' i),(10, .v (.sl ((tN (oK k p)).map cZ))),(11, .v (N s)),(15,E' j)],[(1005,⟨0,aD (tN (fg q P f k i j)),false,none⟩)],1027⟩) (fun j=>j<=k) 0 (fun _=>bQ rfl) (aI _) ?_ ?_
     ·refine lG ?_;all_goals exact fun c hc=>dS hc
     ·intro j hj R hR
      by_cases hjn:j<k
      ·have hg2:=hR (j+1) oO oO;have e4:=Bt (oK k p) (i:=j) (by rw[tF];exact hjn)
       rw[Fc p hjn]at e4;have ho1:(tN (fg q P f k i j)).getD j 0=(AB q P f j i).toNat:=by rw[j8,CU hjn]
       have ho2:(tN (fg q P f k i j)).set j (AB q P f j (i+1)).toNat=tN (fg q P f k i (j+1)):=by rw[pB,vE hjn]
       have hol:(tN (fg q P f k i j)).length=k:=by rw[jH,lZ]
       rw[<-ho2]at hg2;obtain⟨a0,ha0⟩:=j6 (rO (q:=(q:Int)) oO P f j i);have ha0q:=(rO (q:=(q:Int)) oO P f j i).2;have hstep:AB q P f j (i+1)=(AB q P f j i+p.getD j 0*f i%q)%q:=by rw[hpp];rfl
       obtain⟨c,hc⟩:=j6 (hin j);have hcq:=(hin j).2;rw[hc]at hcq e4 hstep;rw[ha0]at ho1 ha0q hstep;rw[hfi,show((a0:Int)+(c:Int)*(fi:Int)%q)%q=(((a0+c*fi%q)%q:Nat):Int) by push_cast;rfl]at hstep
       rw[hstep]at hg2;rw[Int.toNat_natCast]at e4 ho1 hg2;have m1:=zS (a:=c) (b:=yv) (q:=q) oO yi hq q0;have l1:=aL (c*yv) q0;have m2:=VQ (a:=c*yv%q) (b:=s) (q:=q) oO oO hq q0 hgi2;have hcm:c*yv%q*fR s q%q=c*fi%q:=by rw[hfv,jM,jx,cM]
       rw[hcm]at m2;have m3:=G4 (a:=a0) (b:=c*fi%q) (q:=q) oO (by have:=aL (c*fi) q0;omega) hq q0
       generalize (a0+c*fi%q)%q=z at*;generalize tN (fg q P f k i j)=R0 at*;have g0:(aD R0).length=k:=by rw[bA,hol]
       have g1:(aD R0).getD j .u= .v (N a0):=by rw[fW oO,ho1]
       have g2:List.take j (aD R0)++[AV.v (.s (aY z))]++List.drop (j+1) (aD R0)=aD (R0.set j z):=dU oO;clear hR hroP hstep ho2 ho1 hin hcm;refine vZ (aN @lX (aN @lY' (aN @plp (aN @e4 (aN @e5 (aN @g0 (aN @g1 @g2))))))) @m1 @m2 @m3 oT ?_;refine hg2 _ ?_;refine lG ?_;all_goals exact fun c hc=>dS hc
      ·obtain rfl:j=k:=oO;rw[vD];have hgo:=hroP (i+1) oO oO;clear hR hroP;refine dI @lX ?_;refine hgo _ ?_;refine lG ?_;all_goals exact fun c hc=>dS hc
  ·obtain rfl:i=n:=oO;have k1:=dp (rl i);have k2:=eQ (tN (fg q P f i i 0));have k3:=dJ (rl i);have k4:(aD (tN (fg q P f i i 0))).length=i:=by rw[bA,rl]
   clear hRo hg;exact gi (aN @lX (aN @k1 (aN @k2 (aN @k3 (aN @k4 @dE)))))
theorem C2 (hq:q<(2^64)) (hp:eY q=true) (hl:ys.length=xs.length) (h256:xs.length<=256) (hx: ∀a∈xs,a<q) (hy: ∀a∈ys,a<q) (hxq:x<q) (hd:xs.Nodup) (hg: ∀i,i<xs.length->Nat.gcd (wH q (xs.getD i 0:Nat) ((nI xs).eraseIdx i)).toNat q=1):aE 109 [N q, .sl (xs.map cZ), .sl (ys.map cZ),N x] (.tup [N (GH q xs ys x),E 0]):=by
 have h2:=y8 hp;have c1:=C3 hq hp hl h256 hx hy hxq hd;have c2:=AM hq oO (fun a h=>by have:=hx a h;omega) (fun a h=>by have:=hy a h;omega) hl oO hg
 have c3:=Od hq oO (cs:=sC q xs ys) (fun c hc=>by have:=Jc oO xs ys c hc;omega) (x:=x) oO (by rw[F1];omega)
 unfold GH;refine eW call109 func109 ?_;exact z4 @c1 @c2 @c3 oT
theorem KC {m:Bytes} (lm:m.length<=8) (lo:o.length<=8) (hE:gE m o=0) {b:Nat} (ha:GP m o a) (hb:GP m o b):aE 110 [G m o,N a,N b] (.tup [N (a*b%num m),E 0]):=by
 have hM:=eR lm;have m1:=(jf hE).2.2.1;have vm:=(jf hE).1;have la:=ha.lt;have lb:=hb.lt;have va:=aK (aY a);rw[vN (show a<(2^64) by omega)]at va
 have vb:=aK (aY b);rw[vN (show b<(2^64) by omega)]at vb
 have hc:=jT lm lo;rw[hE]at hc;have i1:=oN lm o hE (vN (show a<(2^64) by omega))
 rw[ha.has hE lm]at i1;have i2:=oN lm o hE (vN (show b<(2^64) by omega))
 rw[hb.has hE lm]at i2;have mm:=Oj (a:=a) (b:=b) (m:=num m) oO oO hM oO;rw[eH vm]at mm;refine eW call110 func110 ?_;exact z7 @va @vb @hc @i1 @i2 @mm oT
theorem KB {m:Bytes} (lm:m.length<=8) (lo:o.length<=8) (hE:gE m o=0) (ha:GP m o a) (he:aa e=true):aE 83 [G m o,N a, .agg [.b false, .s e]] (.tup [N (de (num m) a false (num e)),E 0]):=by
 have hM:=eR lm;have la:=ha.lt;have va:=aK (aY a);rw[vN (show a<(2^64) by omega)]at va
 have vi:=jE false e;rw[he]at vi;have hc:=jT lm lo;rw[hE]at hc;have i1:=oN lm o hE (vN (show a<(2^64) by omega))
 rw[ha.has hE lm]at i1;have rw':=BN lm (o:=o) (x:=a) (ng:=false) (e:=e) hE ha he rfl;refine eW call83 func83 ?_;exact z7 @va @vi @hc @i1 @rw' oT oT
theorem Fl (c:CK) (lm:c.m.length<=8) (lo:c.o.length<=8) (hE:gE c.m c.o=0) (ha:GP c.m c.o a) (he:aa e=true):aE 40 [c.pv,N a, .s e] (N (de (num c.m) a false (num e))):=by
 obtain⟨name,m,o,g,y,need,sh⟩:=c;simp only[CK.pv]at*;have hf:aE 45 [.s e] (.agg [.b false, .s e]):=by
  have hm:=zZ false e;have hv:=aK e;rw[he]at hv;refine eW call45 func45 ?_;exact z2 @hv @hm
 have hx:=KB lm lo hE ha he;refine eW call40 func40 ?_;exact z2 @hf @hx
theorem zN {M:Nat}: ∀(l:List (Nat×(Bool×Bytes))) (x:Nat),x<M->gI M x l=x*wO M l%M
 |[],x,h=>by rw[xt,jx,db,b9 h];rfl
 |(a,e)::r,x,h=>by
  rw[gI,zN r _ (aL _ oO),qn,jM,jx,cM]
theorem zO (M:Nat): ∀(l:List (Nat×(Bool×Bytes))) (x a:Nat) (e:Bytes),gI M x (l++[(a,false,e)])=gI M x l*de M a false (num e)%M
 |[],x,a,e=>rfl
 |(b,ng,f)::r,x,a,e=>by rw[List.cons_append,gI,gI,zO M r]
theorem Fh {m o:Bytes} (m1:1<num m): ∀(l:List (Nat×(Bool×Bytes))) (x:Nat),GP m o x->(∀p∈l,GP m o p.1)->GP m o (gI (num m) x l)
 |[],x,h,_=>h
 |(a,ng,e)::r,x,h,hl=>by
  rw[gI];exact Fh m1 r _ (h.mul ((hl (a,ng,e) (.head _)).de m1 ng (num e))) fun p hp=>hl p (.tail _ hp)
theorem GP.one {m o:Bytes} (m1:1<num m):GP m o 1:=⟨m1,Nat.gcd_one_left _, .inr (by rw[qY])⟩
theorem rH (c:CK) (lm:c.m.length<=8) (lo:c.o.length<=8) (hE:gE c.m c.o=0) (hp:eY (num c.o)=true) {pts gN:List Nat} (h0:pts≠[]) (hl:gN.length=pts.length) (hd:pts.Nodup) (hb: ∀a∈pts,a<=8/\a<num c.o) (h256:pts.length<=256) (he: ∀x∈gN,GP c.m c.o x) (hx:x<num c.o):
  aE 52 [c.pv, .sl (pts.map me), .sl (gN.map cZ),E x] (N (wX (num c.m) (num c.o) pts gN x)):=by
 obtain⟨vm,vo,m1,-,-⟩:=jf hE;have hq:=eR lo;have h2:=y8 hp;have hg:=fun i (hi:i<pts.length)=>I9 hp hd hb hi
 have hpw:=fun(a:Nat) (ha:GP c.m c.o a) (e:Bytes) (hv:aa e=true)=>Fl c lm lo hE ha hv
 obtain⟨name,m,o,g,y,need,sh⟩:=c;simp only[CK.pv]at*;obtain⟨q,hqq⟩: ∃q,q=num o:=⟨_,rfl⟩;have eo:(PV.s o)=N q:=by rw[hqq,eH vo]
 rw[<-hqq]at hp hb hx hq h2 hg⊢;have huv: ∀i,∀a∈uv pts.length i,a<q:=fun i a ha=>by
  unfold uv at ha;rcases List.mem_or_eq_of_mem_set ha with h|h
  ·have:=(DJ.1 h).2;omega
  ·omega
 have hI:=fun i=>C2 hq hp (xs:=pts) (ys:=uv pts.length i) (x:=x) (by simp[uv]) h256 (fun a h=>(hb a h).2) (huv i) hx hd hg
 have hlL:=fun i=>Iw (q:=q) oO pts x i
 have hOf:=fun i (hi:i<pts.length)=>ie (pts.getD i 0) (by have:=(hb _ (an 0 hi)).2;omega)
 have hwi:=fun i (hi:i<pts.length)=>(show pts.getD i 0<(2^64) by have:=(hb _ (an 0 hi)).2;omega)
 have hEv:=fun i (hi:i<pts.length)=>getD_map me pts 0 hi
 have o1:aE 55 [.i .u64 1] (N 1):=ie 1 oC;have ox:aE 55 [.i .u64 x] (N x):=ie x oO;have hwx: ∀ _:True,IntKind.u64.wrap (x:Int)=x:=fun _=>IntWalk.u64_in _ oO
 obtain⟨n,hn⟩: ∃n,n=pts.length:=⟨_,rfl⟩;have lP:(pts.map me).length=n:=by rw[aC,hn]
 have lEl:(gN.map cZ).length=n:=by rw[aC,hl,hn]
 have hpos:0<n:=by rw[hn];exact iX.2 h0
 refine eW call52 func52 ?_;refine qB ?_;refine af (α:=Nat) (fun j=>n-j) (fun j=>match j with|0=>⟨[(1, .v (.sl (pts.map me))),(2, .v (.sl (gN.map cZ))),(3, .v (E x)),(4, .p 1000 0 0),(9, .v (.s o)),(10, .sn),(11, .v (.i .i64 0))],[(1000,⟨0,[.v (.s name), .v (.s m), .v (.s o), .v (.s g), .v (.s y), .v (E need), .v (.sl (sh.map .s))],false,none⟩)],1009⟩|j+1=>⟨[(1, .v (.sl (pts.map me))),(2, .v (.sl (gN.map cZ))),(3, .v (E x)),(4, .p 1000 0 0),(9, .v (.s o)),(10, .rs 1021 j 0 (j+1) 1),(11,E' (j+1))],[(1000,⟨0,[.v (.s name), .v (.s m), .v (.s o), .v (.s g), .v (.s y), .v (E need), .v (.sl (sh.map .s))],false,none⟩),(1021,⟨j,aD (pts.take (j+1)),true,some 22⟩)],1024⟩) (fun j=>j<=n) 0 (fun j=>by cases j<;>exact bQ rfl) (aI _) ?_ ?_
 ·show AS.Le _ _;exact lE
 ·intro j hj R hR
  cases j with
  |zero=>
   have hgo:=hR 1 oO oO;have e1:=hEv 0 oO;have c1:=hOf 0 oO;have w1:=hwi 0 oO;simp only[cF 0 (show 0<pts.length by omega),List.take_zero,List.nil_append]at hgo
   simp only[me]at e1;generalize pts.getD 0 0=z at*;have hw1: ∀ _:True,IntKind.u64.wrap (z:Int)=z:=fun _=>IntWalk.u64_in _ oO
   simp only[show aD [z]=[AV.v (N z)]from rfl]at hgo
   clear hR hI hOf hwi hEv hg hpw;exact gV (aN @lP (aN @e1 (hw1 oT))) @hgo @c1
  |succ j=>
   have hlm:(pts.take (j+1)).length=j+1:=by rw[bL];omega
   have g1:=dp hlm;have g2:(aD (pts.take (j+1))).length=j+1:=by rw[bA,hlm]
   by_cases hlt:j+1<n
   ·have hgo:=hR (j+2) oO oO;have e1:=hEv (j+1) oO;have c1:=hOf (j+1) oO;have w1:=hwi (j+1) oO;simp only[cF 0 (show j+1<pts.length by omega),lV]at hgo
    simp only[me]at e1;generalize pts.getD (j+1) 0=z at*;have hw1: ∀ _:True,IntKind.u64.wrap (z:Int)=z:=fun _=>IntWalk.u64_in _ oO
    clear hR hI hOf hwi hEv hg hpw;refine jm (aN @lP (aN @e1 (aN @g1 (aN @g2 (hw1 oT))))) @c1 ?_;refine hgo _ ?_;refine lG ?_;all_goals exact fun c hc=>hc.elim (fun h=>dS h) (fun h=>by rw[h];rfl)
   ·have hjn:j+1=n:=oO;have hT:pts.take n=pts:=cl oO;simp only[hjn,hT]at g1 g2⊢;have g3:=eQ pts;have g4:=dJ (l:=pts) hn.symm;have hI2: ∀i,aE 109 [.s o, .sl (pts.map cZ), .sl ((uv n i).map cZ),N x] (.tup [N (oI q pts x i),E 0]):=fun i=>by
     have:=hI i;rw[<-eo,<-hn]at this;unfold oI;rw[<-hn];exact this
    clear hR hOf hwi hEv hg hI;refine jm @lP @o1 ?_;obtain⟨L,hL⟩: ∃L,L=tj q pts x n:=⟨_,rfl⟩;have hLl:L.length=n:=by rw[hL];simp[tj]
    have zl:(gN.zip L).length=n:=by rw[List.length_zip,hLl];omega
    have zg: ∀k,k<n->(gN.zip L).getD k (0,(false,[]))=(gN.getD k 0,(false,aY (oI q pts x k))):=fun k hk=>by
     have:(gN.zip L)[k]?=some (gN.getD k 0,(false,aY (oI q pts x k))):=by
      rw[Dw];refine⟨?_,?_⟩
      ·show gN[k]?=some (gN.getD k 0);rw[br,bw oO];rfl
      ·show L[k]?=some (false,aY (oI q pts x k));rw[hL,tj,dG,jI hk];rfl
     rw[br,this];rfl
    have hat:wX (num m) q pts gN x=gI (num m) 1 ((gN.zip L).take n):=by
     rw[cl oO,zN _ _ m1,jL];unfold wX;rw[<-hn,<-hL];exact(dY _ _).symm
    have hgpA: ∀k,GP m o (gI (num m) 1 ((gN.zip L).take k)):=fun k=>Fh m1 _ _ (GP.one m1) fun p hp=>by
     obtain⟨a,b⟩:=p;exact he _ (List.of_mem_zip (gS hp)).1
    have hA1: ∀k,k<n->gI (num m) 1 ((gN.zip L).take (k+1))=gI (num m) 1 ((gN.zip L).take k)*de (num m) (gN.getD k 0) false (oI q pts x k)%num m:=fun k hk=>by
     rw[cF (0,(false,[])) (show k<(gN.zip L).length by omega),zg k hk,zO,aQ]
    have hA0:gI (num m) 1 ((gN.zip L).take 0)=1:=by rw[List.take_zero];rfl
    obtain⟨A,hA⟩: ∃A:Nat->Nat,∀k,A k=gI (num m) 1 ((gN.zip L).take k):=⟨_,fun _=>rfl⟩
    simp only[<-hA]at hat hgpA hA1 hA0;rw[hat];clear hA zg;refine af (α:=Nat) (fun k=>n-k) (fun k=>⟨[(10, .v (.sl (pts.map cZ))),(1, .v (.sl (pts.map me))),(2, .v (.sl (gN.map cZ))),(3, .v (E x)),(4, .p 1000 0 0),(9, .v (.s o)),(12, .v (N (A k))),(13,E' k)],[(1000,⟨0,[.v (.s name), .v (.s m), .v (.s o), .v (.s g), .v (.s y), .v (E need), .v (.sl (sh.map .s))],false,none⟩)],1031⟩) (fun k=>k<=n) 0 (fun _=>bQ rfl) (aI _) ?_ ?_
    ·simp only[hA0];refine AS.Le.NG [(10, .sl (pts.map cZ))] [1021] (fun m hm=>by rw[cR.1 hm];exact⟨by decide,rfl⟩) (by intro p hp;rw[cR.1 hp];simp[aP,ay,view,aU,g1,g2,g3,g4,dE,gQ]) (by first|decide|omega) ?_ ?_
     all_goals simp[dC,dA,aP,ay,AV.bd,AV.bd.bdL]
    ·intro k hk R hR
     by_cases hkn:k<n
     ·have hgo:=hR (k+1) oO oO;have e5:=pf gN (i:=k) oO;have hi2:=hI2 k;have hll:=hlL k;have gk:=he _ (an 0 (show k<gN.length by omega))
      have hw:=hpw _ gk (aY (oI q pts x k)) (vN oO);rw[aQ]at hw;have gA:=hgpA k;have hml:=KC lm lo hE gA (gk.de m1 false (oI q pts x k));rw[hA1 k hkn]at hgo;generalize gN.getD k 0=ek at*;generalize oI q pts x k=lk at*;generalize A k=ak at*;generalize de (num m) ek false lk=pk at*;generalize ak*pk%num m=a2 at*;have u0:(aD (List.replicate n 0)).length=n:=by rw[bA];simp
      have u1:List.take k (aD (List.replicate n 0))++[AV.v (N 1)]++List.drop (k+1) (aD (List.replicate n 0))=aD (uv n k):=dU (x:=1) (by simpa using hkn)
      have ul:(uv n k).length=n:=by simp[uv]
      have x1:=dp ul;have x2:=eQ (uv n k);have x3:=dJ ul;have x4:(aD (uv n k)).length=n:=by rw[bA,ul]
      clear hR hI2 hlL hpw hgpA hA1 hat;repeat' first|simp only[go_sem,seval,lP,lEl,e5,fX,u0,u1,hwx oT]|refine cP o1 ?_|refine cP ox ?_|(refine lf [1037] hi2 rfl (by simp[aU,ay,x1,x2,x3,x4,gQ]) (by simp[bz,view,ay,x1,x2,x3,x4,dE]) ?_)|refine cP hw ?_|refine cP hml ?_|refine oE ?_|apply xX<;>intro hc
      refine hgo _ ?_;exact lE
     ·obtain rfl:k=n:=oO;clear hR hI2 hlL hpw hgpA hA1 hat;exact gi @lP
theorem WV:aE 51 [E (-1)] (.agg [.b true, .s [1]]):=by
 have hm:=xl true [1];refine eW call51 func51 ?_;exact z2 @sO @hm
abbrev Shr (i:Nat) (d ch:Bytes) (rs:List Int):PV:= .agg [E i, .s d, .s ch, .sl (rs.map Zp), .sl [], .sl []]
theorem U3 (l:List Int):(l.map nf).map cT=l.map Zp:=by rw[iV];rfl
theorem aal (a b:Int):iS false (.i .i64 a) (.i .i64 b)=some (decide (a=b)):=S5 a b
theorem Nh:gE [23] [11]=0:=by decide+kernel
theorem MU (n:Nat) (h1:n<23) (h2:Nat.gcd n 23=1) (h3:n^11%23=1):GP [23] [11] n:=⟨h1,h2, .inr h3⟩
theorem Mt {ch1 ch3:Bytes} {rs1 rs3:List Int} (l1:rs1.length<1000) (l3:rs3.length<1000) (v1:vW [11] [2] (mP Ar 1) (ey Ar 1 [16] [18]) ch1 (rs1.map nf) [] []=0) (v3:vW [11] [2] (mP Ar 3) (ey Ar 3 [16] [1]) ch3 (rs3.map nf) [] []=0):
  aE 16 [Ar.pv,HM [16] [9], .sl [Shr 1 [18] ch1 rs1,Shr 3 [1] ch3 rs3]] (.tup [.s [13],E 0]):=by
 have k:=lO zc;have c0:=mF Ar oC oC oC oC;rw[zc]at c0;have c1:=Ci Ar oC oC oC oC k (i:=1) oC oC (A:=[16]) (B:=[9]) (d:=[18]) oC (by decide+kernel) (by decide+kernel) (by decide+kernel) (ch:=ch1) (rs:=rs1.map nf) (gs:=[]) (ls':=[]) (by simp;omega) (by simp) (by simp) (fun l h=>by cases h)
 have c3:=Ci Ar oC oC oC oC k (i:=3) oC oC (A:=[16]) (B:=[9]) (d:=[1]) oC (by decide+kernel) (by decide+kernel) (by decide+kernel) (ch:=ch3) (rs:=rs3.map nf) (gs:=[]) (ls':=[]) (by simp;omega) (by simp) (by simp) (fun l h=>by cases h)
 rw[show Ar.o=[11]from rfl]at c1 c3
 rw[v1]at c1;rw[v3]at c3;simp only[U3,bR]at c1 c3;have a1:=Gv [23] [11] [4] [12] (pts:=[1,3]) (by simp) (by simp) oC
 have a2:=Ch (m:=[23]) (o:=[11]) oC oC Nh oC (by decide+kernel) [4] [12] (pts:=[1,3]) (gN:=[18,1]) (by simp) rfl oC oC (by simp) (fun x hx=>by
  simp only[cb,iD,or_false]at hx;rcases hx with rfl|rfl
  ·exact MU 18 oC oC oC
  ·exact MU 1 oC oC oC) (x:=0) oC
 rw[show wX (num [23]) (num [11]) [1,3] [18,1] 0=6 from ZB]at a2
 have p1:=xd (m:=[23]) (o:=[11]) oC oC Nh (xs:=[9,6]) (es:=[(false,[1]),(true,[1])]) (fun x hx=>by
  simp only[cb,iD,or_false]at hx;rcases hx with rfl|rfl
  ·exact MU 9 oC oC oC
  ·exact MU 6 oC oC oC) (fun e he=>by
  simp only[cb,iD,or_false]at he;rcases he with rfl|rfl<;>rfl) rfl (by simp)
 have hz:wO (num [23]) ([9,6].zip [(false,[1]),(true,[1])])=13:=by
  show wO 23 [(9,(false,[1])),(6,(true,[1]))]=13;rw[qn,IN];show de 23 9 false 1*de 23 6 true 1%23=13;have:fR 6 23=4:=jr oC oC;simp only[de,this];decide
 rw[hz]at p1;have z1:([9,6]:List Nat).map cZ=[.s [9], .s [6]]:=by kernel_rfl
 have z2:([18,1]:List Nat).map cZ=[.s [18], .s [1]]:=by kernel_rfl
 have z3:([1,3]:List Nat).map cZ=[.s [1], .s [3]]:=by kernel_rfl
 have z4:([1,3]:List Nat).map me=[E 1,E 3]:=rfl;have z5:([(false,[1]),(true,[1])]:List (Bool×Bytes)).map cT=[.agg [.b false, .s [1]], .agg [.b true, .s [1]]]:=rfl;have z6:N 6= .s [6]:=by kernel_rfl
 have z7:N 13= .s [13]:=by kernel_rfl
 have o1:aE 51 [E 1] (.agg [.b false, .s [1]]):=PO;simp only[AG,z3,z4]at a1 a2;rw[z2,z6]at a2;rw[z1,z5,z7]at p1;have hK:Ar.pv= .agg [.s [99], .s [23], .s [11], .s [4], .s [12],E 2, .sl [.s [8], .s [13], .s [1]]]:=rfl;rw[hK]at c0 c1 c3⊢;clear k v1 v3 hz;refine eW call16 func16 ?_;repeat' first|simp only[go_sem,seval,fY,eF,Nw,oJ,vn,aal,aj,bu,Option.isSome_some]|refine cP c0 ?_|refine cP c1 ?_|refine cP c3 ?_|(refine lf [1081] a1 rfl (by simp[aU,ay]) (by simp[bz,view,ay,AV.one,PV.one,chunk]) ?_)|(refine lf [1086] a2 rfl (by simp[aU,ay]) (by simp[bz,view,ay,AV.one,PV.one,chunk]) ?_)|refine cP o1 ?_|refine cP WV ?_|refine cP p1 ?_|(refine ai ?_)|refine oE ?_|apply xX<;>intro hc




abbrev Sh:=Nat×Nat×Bytes×List Int
structure ShG (c:CK) (A:Bytes) (s:Sh):Prop where
 i1:1<=s.1
 i2:s.1<=c.sh.length
 g:GP c.m c.o s.2.1
 r:s.2.2.2.length<=1
 v:vW c.o [2] (mP c s.1) (ey c s.1 A (aY s.2.1)) s.2.2.1 (s.2.2.2.map nf) [] []=0

theorem JP (c:CK) (ln:c.name.length<=60) (lm:c.m.length<=8) (lo:c.o.length<=8) (ls:c.sh.length<=8) (hc:dP c=0) (A B:Bytes) {l:List PV} (hl:(l.length:Int)<c.need):aE 16 [c.pv,HM A B, .sl l] (.tup [.s [],E 6]):=by
 have v1:=mF c ln lm lo ls;rw[hc]at v1;have k:=lO hc;have:=k.n2;obtain⟨n,hn⟩: ∃n,n=l.length:=⟨_,rfl⟩;have hl':l.length=n:=hn.symm;rw[hl']at hl;clear k hc;obtain⟨name,m,o,g,yy,need,sh⟩:=c;simp only[CK.pv]at*;refine eW call16 func16 ?_;exact m9 @hl' @v1
theorem zd (a b:Nat):iS false (me a) (me b)=some (decide (a=b)):=by
 show iS false (.i .i64 (a:Int)) (.i .i64 (b:Int))= _;rw[S5];exact congrArg some (decide_eq_decide.2 Int.ofNat_inj)
theorem BD {l:List Nat} (hd:l.Nodup) (hlt:i<l.length):l.getD i 0∉l.take i:=fun hm=>by
 obtain⟨j,hj,he⟩:=uk.1 hm;exact(DW.1 hd) j i oO hlt oO (he.trans (by simp[br,hlt]))
theorem AL:dL cZ 1:=⟨fun _=>rfl,fun x y hy=>by cases cR.1 hy;rfl,fun _ _=>rfl,fun h=>aM rfl h⟩
theorem VZ:aE 54 [E (-1)] (.agg [.b true, .s [1]]):=by
 have h1:aE 55 [.i .u64 1] (.s [1]):=ie 1 oC;have hm:aE 96 [.b true, .s [1]] (.agg [.b true, .s [1]]):=zZ true [1];refine eW call54 func54 ?_;exact z2 @h1 @hm
theorem Th:aE 54 [E 1] (.agg [.b false, .s [1]]):=X7
theorem G5 (c:CK):aE 42 [c.pv] (.agg [.s c.o, .s [2]]):=by
 have h:aE 55 [.i .u64 2] (.s [2]):=ie 2 oC;unfold CK.pv;refine eW call42 func42 ?_;exact z1 @h
theorem KG (c:CK) (hn:c.name.length<=1000) (hi:i<100):aE 43 [c.pv,E i] (.s (mP c i)):=by
 have h:=KM i oO;have hl:(Lib.decDigits i).length<=2:=by
  have: ∀i,i<100->(Lib.decDigits i).length<=2:=by decide+kernel
  exact this i hi
 unfold CK.pv mP;generalize Lib.decDigits i=d at*;refine eW call43 func43 ?_;repeat' first|simp only[go_sem,seval,bT]|refine cP h ?_|refine oE ?_|apply xX<;>intro hc
 all_goals rfl
theorem KI (c:CK) (h1:1<=i) (hi:i<=c.sh.length) (hl:c.sh.length<1000000) (a d:Bytes):aE 44 [c.pv,E i, .s a, .s d] (ey c i a d).pv:=by
 obtain⟨j,rfl⟩: ∃j,i=j+1:=⟨i-1,oO⟩;have e1:=eN (l:=c.sh) (x:=j) oO;have hw: ∀ _:True,IntKind.i64.wrap (((j+1:Nat):Int)-1)=(j:Int):=fun _=>by rw[IntWalk.i64_in _ oO];omega
 have l1:(c.sh.map PV.s).length=c.sh.length:=aC ..;unfold ey CK.pv cU.pv;rw[iO];have c1:=Th;generalize c.sh.getD j []=t at*;simp only[dx.pv,bC,bR,eT.pv,Al];refine eW call44 func44 ?_;exact m9 (aN (hw oT) (aN @l1 @e1)) @c1
theorem KH (c:CK) (lm:c.m.length<=8) (lo:c.o.length<=8) {xs:List Bytes} (hx:xs.length<1000000):aE 38 [c.pv, .sl (xs.map .s)] (.b (xs.all (jb c.m c.o))):=by
 have l2:(xs.map PV.s).length=xs.length:=aC ..;obtain⟨name,m,o,g,y,need,sh⟩:=c;simp only[CK.pv]at*;refine eW call38 func38 ?_;refine qB ?_;refine af (α:=Nat) (fun i=>xs.length-i) (fun i=>⟨[(1, .v (.sl (xs.map .s))),(2, .p 1000 0 0),(5,E' i)],[(1000,⟨0,[.v (.s name), .v (.s m), .v (.s o), .v (.s g), .v (.s y), .v (E need), .v (.sl (sh.map .s))],false,none⟩)],_⟩) (fun i=>i<=xs.length/\(xs.drop i).all (jb m o)=xs.all (jb m o)) 0 (fun _=>aA _) ⟨aI _,rfl⟩ ?_ ?_
 ·exact lE
 ·rintro k ⟨hi,hf⟩ R hR;rw[<-hf]
  by_cases hlt:k<xs.length
  ·have e1:=eN hlt;have hgo:=hR (k+1);rw[<-hf]at hgo;rw[aW [] hlt,List.all_cons]at hgo⊢;generalize xs.getD k []=x at*;have hv:=oM lm lo x;clear hR hf;generalize jb m o x=b at*;cases b
   ·repeat' first|simp only[go_sem,seval,l2,e1]|refine cP hv ?_|refine oE ?_|apply xX<;>intro hc
    all_goals simp
   ·have hgo:=hgo ⟨oO,by simp⟩ oO
    exact gV (aN @l2 @e1) @hgo @hv
  ·obtain rfl:k=xs.length:=oO;rw[da];exact gi @l2
