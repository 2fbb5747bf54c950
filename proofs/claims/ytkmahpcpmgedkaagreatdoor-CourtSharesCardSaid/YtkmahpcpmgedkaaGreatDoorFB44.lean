/- Part of the proof. -/
import Derived.Test.YtkmahpcpmgedkaaGreatDoorFB43
set_option linter.all false
set_option maxHeartbeats 16000000
set_option maxRecDepth 100000
namespace Go.Proofs.Tryz
open Go Go.Dom Go.Num
variable {a i j k n q x:Nat} {e o:Bytes} {xs ys:List Nat}
def oG (n:Nat) (l:List Int):List Int:=(List.range n).map fun j=>l.getD j 0
def tM (q:Int) (p:List Int) (a:Int) (n k:Nat):List Int:=(List.range n).map fun t=>if t<k then(mb q p a).getD t 0 else if t=k then(0::p).getD t 0 else 0
theorem Hx (f:Nat->Int) (h:j<n):((List.range n).map f).getD j 0=f j:=by
 rw[bu,dG,jx h];rfl
theorem tQ (n:Nat) (l:List Int):(oG n l).length=n:=by simp[oG]
theorem Fl (l:List Int) (h:j<n):(oG n l).getD j 0=l.getD j 0:=Hx _ h
theorem tO (q:Int) (p:List Int) (a:Int) (n k:Nat):(tM q p a n k).length=n:=by simp[tM]
theorem XG (q:Int) (p:List Int) (a:Int) (n:Nat):tN (tM q p a n 0)=List.replicate n 0:=by
 unfold tN tM;refine nU fun t=> ?_
 by_cases ht:t<n
 ·rw[dG,dG,jx ht,yf,ah ht]
  cases t with
  |zero=>simp
  |succ t=>simp
 ·rw[iS (by simp;omega),iS (by simp;omega)]
theorem Vk (q:Int) (p:List Int) (a:Int) (h:k<n):(tM q p a n k).getD k 0=(0::p).getD k 0:=by
 rw[tM,Hx _ h,ae oO,ah rfl]
theorem NK (q:Int) (p:List Int) (a:Int) (h:k+1<n):(tM q p a n k).getD (k+1) 0=0:=by
 rw[tM,Hx _ h,ae oO,ae oO]
theorem NL (q:Int) (p:List Int) (a:Int) (h:k+1<n):((tM q p a n k).set k ((mb q p a).getD k 0)).set (k+1) (p.getD k 0)=tM q p a n (k+1):=by
 refine nU fun t=> ?_
 by_cases ht:t<n
 ·rw[nS,nS,tM,tM,dG,dG,jx ht];simp only[ft,aB,pD,Option.map_some]
  by_cases e:k+1=t
  ·subst e;rw[ah rfl,ah h,ae oO,ah rfl];rfl
  ·rw[ae e]
   by_cases e2:k=t
   ·subst e2;rw[ah rfl,ah oO,ah oO]
   ·rw[ae e2]
    by_cases e3:t<k
    ·rw[ah e3,ah oO]
    ·rw[ae e3,ae oO,ae oO,ae oO]
 ·rw[iS (by rw[ft,ft,tO];omega),iS (by rw[tO];omega)]
theorem NJ (q:Int) (p:List Int) (a:Int) (h:k+1=n):(tM q p a n k).set k ((mb q p a).getD k 0)=tM q p a n (k+1):=by
 refine nU fun t=> ?_
 by_cases ht:t<n
 ·rw[nS,tM,tM,dG,dG,jx ht];simp only[aB,pD,Option.map_some]
  by_cases e2:k=t
  ·subst e2;rw[ah rfl,ah oO,ah oO]
  ·rw[ae e2,ah oO,ah oO]
 ·rw[iS (by rw[ft,tO];omega),iS (by rw[tO];omega)]
theorem RF (q:Int) (p:List Int) (a:Int) (n:Nat):tM q p a n n=oG n (mb q p a):=by
 unfold tM oG;exact lD fun t ht=>by rw[ah (dV.1 ht)]
theorem NZ (h:0<n):(List.replicate n 0).set 0 1=tN (oG n [1]):=by
 refine nU fun t=> ?_
 by_cases ht:t<n
 ·rw[nS,tN,oG,dG,dG,jx ht]
  cases t with
  |zero=>simp[h]
  |succ t=>rw[ae oO,yf,ah ht];rfl
 ·rw[iS (by simp;omega),iS (by rw[ju,tQ];omega)]
theorem Fb (q a:Int) (p:List Int) (k:Nat):(mb q p a).getD k 0=((0::p).getD k 0-p.getD k 0*a%q)%q:=GY q a p k
theorem Bo (hq:q<(2^64)) (h1:1<q) (hx: ∀a∈xs,a<(2^64)) (hy: ∀a∈ys,a<(2^64)) (hl:ys.length=xs.length) (hxl:xs.length<1000000) (hg: ∀i,i<xs.length->Nat.gcd (wZ q (xs.getD i 0:Nat) ((nI xs).eraseIdx i)).toNat q=1):aD 224 [N q, .sl (xs.map dr), .sl (ys.map dr)] (.sl ((sD q xs ys).map dr)):=by
 have q0:0<q:=oO;obtain⟨n,hn⟩: ∃n,n=xs.length:=⟨_,rfl⟩;have lX:(xs.map dr).length=n:=by rw[aB,hn]
 have lY:ys.length=n:=by rw[hl,hn]
 have lI:(nI xs).length=n:=by rw[sf,hn]
 obtain⟨P,hP⟩: ∃P:Nat->List Int,P=fun k=>Bm q ((nI xs).eraseIdx k):=⟨_,rfl⟩
 obtain⟨f,hf⟩: ∃f:Nat->Int,f=fN q xs ys:=⟨_,rfl⟩;have hT:sD q xs ys=tN (fz q P f n n 0):=by
  unfold sD;rw[<-lI,hP,Fk,hf]
 rw[hT];have r0:tN (fz q P f n 0 0)=List.replicate n 0:=by rw[NY];simp[tN]
 have rl: ∀i,(tN (fz q P f n i 0)).length=n:=fun i=>by rw[ju,lZ]
 have o1:aD 55 [.i .u64 1] (N 1):=ig 1 oC;have w2:=j2;have md:=iI (a:=1) (m:=q) oO oO q0;rw[bY h1]at md;clear hT;refine eW call224 func224 ?_;repeat' first|simp only[go_sem,seval,lX,fX]|refine oE ?_|apply xX<;>intro hc
 refine af (α:=Nat) (fun i=>n-i) (fun i=>⟨[(0, .v (N q)),(1, .v (.sl (xs.map dr))),(2, .v (.sl (ys.map dr))),(7,E' n),(8, .rs 1005 0 0 n 1),(9,E' i)],[(1005,⟨0,aE (tN (fz q P f n i 0)),false,none⟩)],_⟩) (fun i=>i<=n) 0 (fun _=>ay _) (aJ _) ?_ ?_
 ·rw[r0];refine lG ?_;all_goals exact fun c hc=>dZ hc
 ·intro i hi Ro hRo
  by_cases hlt:i<n
  ·have hi':i<xs.length:=oO;have hpos:0<n:=oO;obtain⟨x,hxi⟩: ∃x:Nat,x=xs.getD i 0:=⟨_,rfl⟩;obtain⟨L,hL⟩: ∃L:List Int,L=nI xs:=⟨_,rfl⟩;have hgi:=hg i hi';rw[<-hL,<-hxi]at hgi;have hfi0:f i=((ys.getD i 0*fR (wZ q x (L.eraseIdx i)).toNat q%q:Nat):Int):=by rw[hf,hL,hxi];rfl
   have hpi:P i=Bm q (L.eraseIdx i):=by rw[hP,hL]
   have z0:(aE (List.replicate n 0)).length=n:=by rw[bw,x8]
   have z1:AV.v (N 1)::List.drop 1 (aE (List.replicate n 0))=aE (tN (oG n [1])):=by
    rw[<-NZ hpos];exact ec (l:=List.replicate n 0) (o:=0) (x:=1) (by simpa using hpos)
   have hroP:=hRo;clear hg hRo;repeat' first|simp only[go_sem,seval,lX,fX,z0,z1]|refine cP o1 ?_|refine cP md ?_|refine oE ?_|apply xX<;>intro hc
   have pl:=fun p=>(show(tN (oG n p)).length=n by rw[ju,tQ])
   have py1:=db (pl [1]);have py2:=eX (tN (oG n [1]));have py3:=dJ (pl [1]);have py4:(aE (tN (oG n [1]))).length=n:=by rw[bw,pl]
   refine af (α:=Nat) (fun k=>n-k) (fun k=>⟨[(10, .v (.sl ((tN (oG n (Bm q (pO L i k)))).map dr))),(0, .v (N q)),(1, .v (.sl (xs.map dr))),(2, .v (.sl (ys.map dr))),(7,E' n),(8, .rs 1005 0 0 n 1),(9,E' i),(11, .v (N (wZ q x (pO L i k)).toNat)),(12,E' k)],[(1005,⟨0,aE (tN (fz q P f n i 0)),false,none⟩)],1023⟩) (fun k=>k<=n) 0 (fun _=>bZ rfl) (aJ _) ?_ ?_
   ·have ex0:Bm (q:Int) (pO L i 0)=[1]:=by rw[ML];rfl
    have ex1:N (wZ (q:Int) x (pO L i 0)).toNat=N 1:=by rw[ML];rfl
    simp only[ex0,ex1];refine AS.Le.LA [(10, .sl ((tN (oG n [1])).map dr))] [1012] (fun m hm=>by rw[dt.1 hm];exact⟨by decide,rfl⟩) (by intro p hp;rw[dt.1 hp];simp[aO,az,view,aV,py1,py2,py3,py4,dC,gP]) (by first|decide|omega) ?_ ?_
    all_goals simp[dy,dx,aO,az,AV.bd,AV.bd.bdL]
    all_goals exact fun c hc=>dZ hc
   ·intro k hk R hR
    by_cases hkn:k<n
    ·have e2:=o6 xs (i:=k) oO
     by_cases hki:k=i
     ·have hex:pO L i (k+1)=pO L i k:=by rw[hki];exact MM (by rw[hL];omega)
      have hgo:=hR (k+1) oO oO;rw[hex]at hgo;clear hR hroP;refine dH @lX ?_;refine hgo _ ?_;refine lG ?_;all_goals exact fun c hc=>dZ hc
     ·have hex:pO L i (k+1)=pO L i k++[((xs.getD k 0:Nat):Int)]:=by rw[MN (by rw[hL];omega) hki,hL,tH]
      have hgo:=hR (k+1) oO oO;simp only[hex,E9,FO]at hgo;have xk:=hx _ (aq 0 (show k<xs.length by omega))
      have xi:=hx _ (aq 0 hi');rw[<-hxi]at xi;have e3:=o6 xs hi';rw[<-hxi]at e3;have hnki: ¬((k:Int)=(i:Int)):=oO;have hsi:=wz (q:=(q:Int)) oO x (pO L i k);have hin:=C9 (q:=(q:Int)) oO (pO L i k);generalize Bm (q:Int) (pO L i k)=p at*;obtain⟨s0,hs0⟩:=jV hsi;rw[hs0]at hsi hgo⊢;rw[Int.toNat_natCast];generalize xs.getD k 0=y at*;have d1:=Og (a:=x) (b:=y) (q:=q) xi xk hq q0;obtain⟨dn,hdn⟩:=jV (q:=(q:Int)) ⟨gK (((x:Nat):Int)-(y:Nat)) oO,gT _ oO⟩;have hdl:=gT (((x:Nat):Int)-(y:Nat)) (show(0:Int)<q by omega)
      rw[hdn]at hdl hgo d1;rw[show(((s0:Nat):Int)*(dn:Nat)%(q:Nat))=((s0*dn%q:Nat):Int) by push_cast;rfl]at hgo
      rw[Int.toNat_natCast]at hgo d1;have d2:=Ak (a:=s0) (b:=dn) (q:=q) oO oO hq q0;generalize s0*dn%q=s2 at*;have z2:aE (List.replicate n 0)=aE (tN (tM q p y n 0)):=by rw[XG]
      clear hR hroP hfi0 hpi hgi hdn hs0;repeat' first|simp only[go_sem,seval,lX,fX,eT,hnki]|refine oE ?_|apply xX<;>intro hc
      have plp:=pl p;have nl:=fun j=>(show(tN (tM q p y n j)).length=n by rw[ju,tO])
      refine af (α:=Nat) (fun j=>n-j) (fun j=>⟨[(0, .v (N q)),(1, .v (.sl (xs.map dr))),(2, .v (.sl (ys.map dr))),(7,E' n),(8, .rs 1005 0 0 n 1),(9,E' i),(10, .v (.sl ((tN (oG n p)).map dr))),(11, .v (N s0)),(12,E' k),(13, .rs 1030 0 0 n 1),(14,E' j)],[(1005,⟨0,aE (tN (fz q P f n i 0)),false,none⟩),(1030,⟨0,aE (tN (tM q p y n j)),false,none⟩)],1033⟩) (fun j=>j<=n) 0 (fun _=>bZ rfl) (aJ _) ?_ ?_
      ·rw[<-z2];refine lG ?_;all_goals exact⟨fun c hc=>dZ hc,fun c hc=>dZ hc⟩
      ·intro j hj R hR
       by_cases hjn:j<n
       ·have hg2:=hR (j+1) oO oO;have e4:=BP (oG n p) (i:=j) (by rw[tQ];exact hjn)
        rw[Fl p hjn]at e4;have hm:=Fb (q:Int) y p j;obtain⟨c,hc⟩:=jV (hin j);have hcq:=(hin j).2;obtain⟨v,hv⟩:=jV (x:=(0::p).getD j 0) (q:=q) (by
         cases j with
         |zero=>exact⟨mG _,by simp;omega⟩
         |succ j=>exact hin j)
        have hvq:v<q:=by
         have:(0::p).getD j 0<(q:Int):=by
          cases j with
          |zero=>simp;omega
          |succ j=>exact(hin j).2
         omega
        rw[hc,hv]at hm;rw[hc]at hcq e4;rw[Int.toNat_natCast]at e4;have na:=Vk (q:Int) p y hjn;rw[hv]at na;have m2:=Ak (a:=c) (b:=y) (q:=q) oO xk hq q0;have m3:=Og (a:=v) (b:=c*y%q) (q:=q) oO (by have:=aL (c*y) q0;omega) hq q0
        rw[show(((c*y%q:Nat):Int))=(c:Int)*y%q by push_cast;rfl,<-hm]at m3
        have m4:=He (a:=0) (b:=c) (q:=q) oC oO hq q0;rw[dq,bY oO]at m4;have nlj:=nl j;have g0:(aE (tN (tM q p y n j))).length=n:=by rw[bw,nlj]
        have g1:(aE (tN (tM q p y n j))).getD j .u= .v (N v):=by rw[fW oO,jY,na];rfl
        have hs1:=pq (tM q p y n j) j ((mb q p y).getD j 0)
        by_cases hj1:j+1<n
        ·have nn2:=NK (q:Int) p y hj1;have st:=NL (q:Int) p y hj1;rw[hc]at st;have hs2:=pq ((tM q p y n j).set j ((mb q p y).getD j 0)) (j+1) (c:Int);rw[st,<-hs1,Int.toNat_natCast]at hs2;rw[<-hs2]at hg2;have na2:((tN (tM q p y n j)).set j ((mb q p y).getD j 0).toNat).getD (j+1) 0=0:=by
          have:(tN (tM q p y n j)).getD (j+1) 0=0:=by rw[jY,nn2];rfl
          rw[bu,DS oO,<-bu];exact this
         generalize ((mb q p y).getD j 0).toNat=w at*;generalize tN (tM q p y n j)=R0 at*;have g2:List.take j (aE R0)++[AV.v (.s (aX w))]++List.drop (j+1) (aE R0)=aE (R0.set j w):=ec oO;have g3:(aE (R0.set j w)).getD (j+1) .u= .v (N 0):=by rw[fW (by rw[ft];omega),na2]
         have g4:(aE (R0.set j w)).length=n:=by rw[bw,ft,nlj]
         have g5:List.take (j+1) (aE (R0.set j w))++[AV.v (.s (aX c))]++List.drop (j+1+1) (aE (R0.set j w))=aE ((R0.set j w).set (j+1) c):=ec (by rw[ft];omega)
         have ht1: ∀ _:True,((j:Int)+1).toNat=j+1:=fun _=>oO
         have hb1: ∀ _:True,decide ((j:Int)+1<(n:Int))=true:=fun _=>aI oO
         clear hR hgo hin nl nn2 st hs1 hs2 na hm hv hc;refine wI (aN @lX (aN @plp (aN @e2 (aN @e4 (aN @g0 (aN @g1 (aN @g2 (aN @g3 (aN @g4 (aN @g5 (aN (ht1 oT) (hb1 oT)))))))))))) @m2 @m3 @m4 oT ?_;refine hg2 _ ?_;refine lG ?_;all_goals exact⟨fun c hc=>dZ hc,fun c hc=>dZ hc⟩
        ·have st:=NJ (q:Int) p y (show j+1=n by omega)
         rw[st]at hs1;rw[<-hs1]at hg2;generalize ((mb q p y).getD j 0).toNat=w at*;generalize tN (tM q p y n j)=R0 at*;have g2:List.take j (aE R0)++[AV.v (.s (aX w))]++List.drop (j+1) (aE R0)=aE (R0.set j w):=ec oO;have g4:(aE (R0.set j w)).length=n:=by rw[bw,ft,nlj]
         have hb1: ∀ _:True,decide ((j:Int)+1<(n:Int))=false:=fun _=>aH oO
         clear hR hgo hin nl st hs1 na hm hv hc;refine pV (aN @lX (aN @plp (aN @e2 (aN @e4 (aN @g0 (aN @g1 (aN @g2 (aN @g4 (hb1 oT))))))))) @m2 @m3 ?_;refine hg2 _ ?_;refine lG ?_;all_goals exact⟨fun c hc=>dZ hc,fun c hc=>dZ hc⟩
       ·obtain rfl:j=n:=oO;clear hR;have hend:=RF (q:Int) p y j;rw[hend];generalize mb (q:Int) p y=p2 at*;have k1:=db (pl p2);have k2:=eX (tN (oG j p2));have k3:=dJ (pl p2);have k4:(aE (tN (oG j p2))).length=j:=by rw[bw,pl]
        clear nl z2 hend hin;refine pV (aN @lX (aN @e2 @e3)) @d1 @d2 ?_;refine hgo _ ?_;refine AS.Le.LA [(10, .sl ((tN (oG j p2)).map dr))] [1030] (fun m hm=>by rw[dt.1 hm];exact⟨by decide,rfl⟩) (by intro p hp;rw[dt.1 hp];simp[aO,az,view,aV,k1,k2,k3,k4,dC,gP]) (by first|decide|omega) ?_ ?_
        all_goals simp[dy,dx,aO,az,AV.bd,AV.bd.bdL]
        all_goals exact fun c hc=>dZ hc
    ·obtain rfl:k=n:=oO;have hLl:L.length=k:=by rw[hL,lI]
     have hxe:pO L i k=L.eraseIdx i:=by rw[<-hLl];exact Ix L i
     rw[hxe,<-hpi];have hsi:=wz (q:=(q:Int)) oO x (L.eraseIdx i);have hin:LH (q:Int) (P i):=by rw[hpi];exact C9 oO _
     obtain⟨s,hs⟩:=jV hsi;rw[hs]at hgi hsi hfi0⊢;rw[Int.toNat_natCast]at hgi hfi0⊢;have hPi:P i=(P i):=rfl;obtain⟨p,hpp⟩: ∃p,p=P i:=⟨_,rfl⟩;rw[<-hpp]at hin⊢;have plp:=pl p;have yi:=hy _ (aq 0 (show i<ys.length by omega))
     have e5:=o6 ys (i:=i) oO;have lY':(ys.map dr).length=k:=by rw[aB,lY]
     generalize ys.getD i 0=yv at*;obtain⟨fi,hfi⟩: ∃fi:Nat,f i=fi:=⟨_,hfi0⟩;have hfv:fi=yv*fR s q%q:=by rw[hfi]at hfi0;exact Int.ofNat.inj hfi0
     have hiv:=(gL q0 hgi).inv.1;have hgi2:=hgi;clear hR hgi hs hxe;repeat' first|simp only[go_sem,seval,lX]|refine oE ?_|apply xX<;>intro hc
     refine af (α:=Nat) (fun j=>k-j) (fun j=>⟨[(0, .v (N q)),(1, .v (.sl (xs.map dr))),(2, .v (.sl (ys.map dr))),(7,E' k),(8, .rs 1005 0 0 k 1),(9,E' i),(10, .v (.sl ((tN (oG k p)).map dr))),(11, .v (N s)),(15,E' j)],[(1005,⟨0,aE (tN (fz q P f k i j)),false,none⟩)],1027⟩) (fun j=>j<=k) 0 (fun _=>bZ rfl) (aJ _) ?_ ?_
     ·refine lG ?_;all_goals exact fun c hc=>dZ hc
     ·intro j hj R hR
      by_cases hjn:j<k
      ·have hg2:=hR (j+1) oO oO;have e4:=BP (oG k p) (i:=j) (by rw[tQ];exact hjn)
       rw[Fl p hjn]at e4;have ho1:(tN (fz q P f k i j)).getD j 0=(Be q P f j i).toNat:=by rw[jY,Dd hjn]
       have ho2:(tN (fz q P f k i j)).set j (Be q P f j (i+1)).toNat=tN (fz q P f k i (j+1)):=by rw[pq,vV hjn]
       have hol:(tN (fz q P f k i j)).length=k:=by rw[ju,lZ]
       rw[<-ho2]at hg2;obtain⟨a0,ha0⟩:=jV (rO (q:=(q:Int)) oO P f j i);have ha0q:=(rO (q:=(q:Int)) oO P f j i).2;have hstep:Be q P f j (i+1)=(Be q P f j i+p.getD j 0*f i%q)%q:=by rw[hpp];rfl
       obtain⟨c,hc⟩:=jV (hin j);have hcq:=(hin j).2;rw[hc]at hcq e4 hstep;rw[ha0]at ho1 ha0q hstep;rw[hfi,show((a0:Int)+(c:Int)*(fi:Int)%q)%q=(((a0+c*fi%q)%q:Nat):Int) by push_cast;rfl]at hstep
       rw[hstep]at hg2;rw[Int.toNat_natCast]at e4 ho1 hg2;have m1:=Ak (a:=c) (b:=yv) (q:=q) oO yi hq q0;have l1:=aL (c*yv) q0;have m2:=V0 (a:=c*yv%q) (b:=s) (q:=q) oO oO hq q0 hgi2;have hcm:c*yv%q*fR s q%q=c*fi%q:=by rw[hfv,jz,jj,cF]
       rw[hcm]at m2;have m3:=He (a:=a0) (b:=c*fi%q) (q:=q) oO (by have:=aL (c*fi) q0;omega) hq q0
       generalize (a0+c*fi%q)%q=z at*;generalize tN (fz q P f k i j)=R0 at*;have g0:(aE R0).length=k:=by rw[bw,hol]
       have g1:(aE R0).getD j .u= .v (N a0):=by rw[fW oO,ho1]
       have g2:List.take j (aE R0)++[AV.v (.s (aX z))]++List.drop (j+1) (aE R0)=aE (R0.set j z):=ec oO;clear hR hroP hstep ho2 ho1 hin hcm;refine wI (aN @lX (aN @lY' (aN @plp (aN @e4 (aN @e5 (aN @g0 (aN @g1 @g2))))))) @m1 @m2 @m3 oT ?_;refine hg2 _ ?_;refine lG ?_;all_goals exact fun c hc=>dZ hc
      ·obtain rfl:j=k:=oO;rw[vU];have hgo:=hroP (i+1) oO oO;clear hR hroP;refine dH @lX ?_;refine hgo _ ?_;refine lG ?_;all_goals exact fun c hc=>dZ hc
  ·obtain rfl:i=n:=oO;have k1:=db (rl i);have k2:=eX (tN (fz q P f i i 0));have k3:=dJ (rl i);have k4:(aE (tN (fz q P f i i 0))).length=i:=by rw[bw,rl]
   clear hRo hg;exact gn (aN @lX (aN @k1 (aN @k2 (aN @k3 (aN @k4 @dC)))))
theorem Dh (hq:q<(2^64)) (hp:fj q=true) (hl:ys.length=xs.length) (h256:xs.length<=256) (hx: ∀a∈xs,a<q) (hy: ∀a∈ys,a<q) (hxq:x<q) (hd:xs.Nodup) (hg: ∀i,i<xs.length->Nat.gcd (wZ q (xs.getD i 0:Nat) ((nI xs).eraseIdx i)).toNat q=1):aD 109 [N q, .sl (xs.map dr), .sl (ys.map dr),N x] (.tup [N (GQ q xs ys x),E 0]):=by
 have h2:=zE hp;have c1:=Di hq hp hl h256 hx hy hxq hd;have c2:=Bo hq oO (fun a h=>by have:=hx a h;omega) (fun a h=>by have:=hy a h;omega) hl oO hg
 have c3:=Oi hq oO (cs:=sD q xs ys) (fun c hc=>by have:=Jm oO xs ys c hc;omega) (x:=x) oO (by rw[F7];omega)
 unfold GQ;refine eW call109 func109 ?_;exact z4 @c1 @c2 @c3 oT
theorem KJ {m:Bytes} (lm:m.length<=8) (lo:o.length<=8) (hE:gE m o=0) {b:Nat} (ha:GP m o a) (hb:GP m o b):aD 110 [G m o,N a,N b] (.tup [N (a*b%num m),E 0]):=by
 have hM:=eP lm;have m1:=(jm hE).2.2.1;have vm:=(jm hE).1;have la:=ha.lt;have lb:=hb.lt;have va:=aK (aX a);rw[vN (show a<(2^64) by omega)]at va
 have vb:=aK (aX b);rw[vN (show b<(2^64) by omega)]at vb
 have hc:=jJ lm lo;rw[hE]at hc;have i1:=oI lm o hE (vN (show a<(2^64) by omega))
 rw[ha.has hE lm]at i1;have i2:=oI lm o hE (vN (show b<(2^64) by omega))
 rw[hb.has hE lm]at i2;have mm:=Ou (a:=a) (b:=b) (m:=num m) oO oO hM oO;rw[eE vm]at mm;refine eW call110 func110 ?_;exact z7 @va @vb @hc @i1 @i2 @mm oT
theorem KI {m:Bytes} (lm:m.length<=8) (lo:o.length<=8) (hE:gE m o=0) (ha:GP m o a) (he:aa e=true):aD 83 [G m o,N a, .agg [.b false, .s e]] (.tup [N (dh (num m) a false (num e)),E 0]):=by
 have hM:=eP lm;have la:=ha.lt;have va:=aK (aX a);rw[vN (show a<(2^64) by omega)]at va
 have vi:=iw false e;rw[he]at vi;have hc:=jJ lm lo;rw[hE]at hc;have i1:=oI lm o hE (vN (show a<(2^64) by omega))
 rw[ha.has hE lm]at i1;have rw':=B9 lm (o:=o) (x:=a) (ng:=false) (e:=e) hE ha he rfl;refine eW call83 func83 ?_;exact z7 @va @vi @hc @i1 @rw' oT oT
theorem qo (c:CK) (lm:c.m.length<=8) (lo:c.o.length<=8) (hE:gE c.m c.o=0) (ha:GP c.m c.o a) (he:aa e=true):aD 40 [c.pv,N a, .s e] (N (dh (num c.m) a false (num e))):=by
 obtain⟨name,m,o,g,y,need,sh⟩:=c;simp only[CK.pv]at*;have hf:aD 45 [.s e] (.agg [.b false, .s e]):=by
  have hm:=Ar false e;have hv:=aK e;rw[he]at hv;refine eW call45 func45 ?_;exact z2 @hv @hm
 have hx:=KI lm lo hE ha he;refine eW call40 func40 ?_;exact z2 @hf @hx
theorem Af {M:Nat}: ∀(l:List (Nat×(Bool×Bytes))) (x:Nat),x<M->iY M x l=x*B5 M l%M
 |[],x,h=>by rw[Dg,jj,dN,bY h];rfl
 |(a,e)::r,x,h=>by
  rw[iY,Af r _ (aL _ oO),tR,jz,jj,cF]
theorem Ag (M:Nat): ∀(l:List (Nat×(Bool×Bytes))) (x a:Nat) (e:Bytes),iY M x (l++[(a,false,e)])=iY M x l*dh M a false (num e)%M
 |[],x,a,e=>rfl
 |(b,ng,f)::r,x,a,e=>by rw[List.cons_append,iY,iY,Ag M r]
theorem Fq {m o:Bytes} (m1:1<num m): ∀(l:List (Nat×(Bool×Bytes))) (x:Nat),GP m o x->(∀p∈l,GP m o p.1)->GP m o (iY (num m) x l)
 |[],x,h,_=>h
 |(a,ng,e)::r,x,h,hl=>by
  rw[iY];exact Fq m1 r _ (h.mul ((hl (a,ng,e) (.head _)).dh m1 ng (num e))) fun p hp=>hl p (.tail _ hp)
theorem GP.one {m o:Bytes} (m1:1<num m):GP m o 1:=⟨m1,Nat.gcd_one_left _, .inr (by rw[uM])⟩
theorem Bp (c:CK) (lm:c.m.length<=8) (lo:c.o.length<=8) (hE:gE c.m c.o=0) (hp:fj (num c.o)=true) {pts nh:List Nat} (h0:pts≠[]) (hl:nh.length=pts.length) (hd:pts.Nodup) (hb: ∀a∈pts,a<=8/\a<num c.o) (h256:pts.length<=256) (he: ∀x∈nh,GP c.m c.o x) (hx:x<num c.o):
  aD 52 [c.pv, .sl (pts.map yJ), .sl (nh.map dr),E x] (N (Lz (num c.m) (num c.o) pts nh x)):=by
 obtain⟨vm,vo,m1,-,-⟩:=jm hE;have hq:=eP lo;have h2:=zE hp;have hg:=fun i (hi:i<pts.length)=>Jj hp hd hb hi
 have hpw:=fun(a:Nat) (ha:GP c.m c.o a) (e:Bytes) (hv:aa e=true)=>qo c lm lo hE ha hv
 obtain⟨name,m,o,g,y,need,sh⟩:=c;simp only[CK.pv]at*;obtain⟨q,hqq⟩: ∃q,q=num o:=⟨_,rfl⟩;have eo:(PV.s o)=N q:=by rw[hqq,eE vo]
 rw[<-hqq]at hp hb hx hq h2 hg⊢;have huv: ∀i,∀a∈uv pts.length i,a<q:=fun i a ha=>by
  unfold uv at ha;rcases List.mem_or_eq_of_mem_set ha with h|h
  ·have:=(Eb.1 h).2;omega
  ·omega
 have hI:=fun i=>Dh hq hp (xs:=pts) (ys:=uv pts.length i) (x:=x) (by simp[uv]) h256 (fun a h=>(hb a h).2) (huv i) hx hd hg
 have hlL:=fun i=>IJ (q:=q) oO pts x i
 have hOf:=fun i (hi:i<pts.length)=>ig (pts.getD i 0) (by have:=(hb _ (aq 0 hi)).2;omega)
 have hwi:=fun i (hi:i<pts.length)=>(show pts.getD i 0<(2^64) by have:=(hb _ (aq 0 hi)).2;omega)
 have hEv:=fun i (hi:i<pts.length)=>getD_map yJ pts 0 hi
 have o1:aD 55 [.i .u64 1] (N 1):=ig 1 oC;have ox:aD 55 [.i .u64 x] (N x):=ig x oO;have hwx: ∀ _:True,IntKind.u64.wrap (x:Int)=x:=fun _=>IntWalk.u64_in _ oO
 obtain⟨n,hn⟩: ∃n,n=pts.length:=⟨_,rfl⟩;have lP:(pts.map yJ).length=n:=by rw[aB,hn]
 have lEl:(nh.map dr).length=n:=by rw[aB,hl,hn]
 have hpos:0<n:=by rw[hn];exact kq.2 h0
 refine eW call52 func52 ?_;refine pU ?_;refine af (α:=Nat) (fun j=>n-j) (fun j=>match j with|0=>⟨[(1, .v (.sl (pts.map yJ))),(2, .v (.sl (nh.map dr))),(3, .v (E x)),(4, .p 1000 0 0),(9, .v (.s o)),(10, .sn),(11, .v (.i .i64 0))],[(1000,⟨0,[.v (.s name), .v (.s m), .v (.s o), .v (.s g), .v (.s y), .v (E need), .v (.sl (sh.map .s))],false,none⟩)],1009⟩|j+1=>⟨[(1, .v (.sl (pts.map yJ))),(2, .v (.sl (nh.map dr))),(3, .v (E x)),(4, .p 1000 0 0),(9, .v (.s o)),(10, .rs 1021 j 0 (j+1) 1),(11,E' (j+1))],[(1000,⟨0,[.v (.s name), .v (.s m), .v (.s o), .v (.s g), .v (.s y), .v (E need), .v (.sl (sh.map .s))],false,none⟩),(1021,⟨j,aE (pts.take (j+1)),true,some 22⟩)],1024⟩) (fun j=>j<=n) 0 (fun j=>by cases j<;>exact bZ rfl) (aJ _) ?_ ?_
 ·show AS.Le _ _;exact lE
 ·intro j hj R hR
  cases j with
  |zero=>
   have hgo:=hR 1 oO oO;have e1:=hEv 0 oO;have c1:=hOf 0 oO;have w1:=hwi 0 oO;simp only[eY 0 (show 0<pts.length by omega),List.take_zero,List.nil_append]at hgo
   simp only[yJ]at e1;generalize pts.getD 0 0=z at*;have hw1: ∀ _:True,IntKind.u64.wrap (z:Int)=z:=fun _=>IntWalk.u64_in _ oO
   simp only[show aE [z]=[AV.v (N z)]from rfl]at hgo
   clear hR hI hOf hwi hEv hg hpw;exact gV (aN @lP (aN @e1 (hw1 oT))) @hgo @c1
  |succ j=>
   have hlm:(pts.take (j+1)).length=j+1:=by rw[bV];omega
   have g1:=db hlm;have g2:(aE (pts.take (j+1))).length=j+1:=by rw[bw,hlm]
   by_cases hlt:j+1<n
   ·have hgo:=hR (j+2) oO oO;have e1:=hEv (j+1) oO;have c1:=hOf (j+1) oO;have w1:=hwi (j+1) oO;simp only[eY 0 (show j+1<pts.length by omega),lV]at hgo
    simp only[yJ]at e1;generalize pts.getD (j+1) 0=z at*;have hw1: ∀ _:True,IntKind.u64.wrap (z:Int)=z:=fun _=>IntWalk.u64_in _ oO
    clear hR hI hOf hwi hEv hg hpw;refine kz (aN @lP (aN @e1 (aN @g1 (aN @g2 (hw1 oT))))) @c1 ?_;refine hgo _ ?_;refine lG ?_;all_goals exact fun c hc=>hc.elim (fun h=>dZ h) (fun h=>by rw[h];rfl)
   ·have hjn:j+1=n:=oO;have hT:pts.take n=pts:=cb oO;simp only[hjn,hT]at g1 g2⊢;have g3:=eX pts;have g4:=dJ (l:=pts) hn.symm;have hI2: ∀i,aD 109 [.s o, .sl (pts.map dr), .sl ((uv n i).map dr),N x] (.tup [N (oF q pts x i),E 0]):=fun i=>by
     have:=hI i;rw[<-eo,<-hn]at this;unfold oF;rw[<-hn];exact this
    clear hR hOf hwi hEv hg hI;refine kz @lP @o1 ?_;obtain⟨L,hL⟩: ∃L,L=tB q pts x n:=⟨_,rfl⟩;have hLl:L.length=n:=by rw[hL];simp[tB]
    have zl:(nh.zip L).length=n:=by rw[List.length_zip,hLl];omega
    have zg: ∀k,k<n->(nh.zip L).getD k (0,(false,[]))=(nh.getD k 0,(false,aX (oF q pts x k))):=fun k hk=>by
     have:(nh.zip L)[k]?=some (nh.getD k 0,(false,aX (oF q pts x k))):=by
      rw[Ee];refine⟨?_,?_⟩
      ·show nh[k]?=some (nh.getD k 0);rw[bu,bC oO];rfl
      ·show L[k]?=some (false,aX (oF q pts x k));rw[hL,tB,dG,jx hk];rfl
     rw[bu,this];rfl
    have hat:Lz (num m) q pts nh x=iY (num m) 1 ((nh.zip L).take n):=by
     rw[cb oO,Af _ _ m1,kW];unfold Lz;rw[<-hn,<-hL];exact(ep _ _).symm
    have hgpA: ∀k,GP m o (iY (num m) 1 ((nh.zip L).take k)):=fun k=>Fq m1 _ _ (GP.one m1) fun p hp=>by
     obtain⟨a,b⟩:=p;exact he _ (List.of_mem_zip (jA hp)).1
    have hA1: ∀k,k<n->iY (num m) 1 ((nh.zip L).take (k+1))=iY (num m) 1 ((nh.zip L).take k)*dh (num m) (nh.getD k 0) false (oF q pts x k)%num m:=fun k hk=>by
     rw[eY (0,(false,[])) (show k<(nh.zip L).length by omega),zg k hk,Ag,aP]
    have hA0:iY (num m) 1 ((nh.zip L).take 0)=1:=by rw[List.take_zero];rfl
    obtain⟨A,hA⟩: ∃A:Nat->Nat,∀k,A k=iY (num m) 1 ((nh.zip L).take k):=⟨_,fun _=>rfl⟩
    simp only[<-hA]at hat hgpA hA1 hA0;rw[hat];clear hA zg;refine af (α:=Nat) (fun k=>n-k) (fun k=>⟨[(10, .v (.sl (pts.map dr))),(1, .v (.sl (pts.map yJ))),(2, .v (.sl (nh.map dr))),(3, .v (E x)),(4, .p 1000 0 0),(9, .v (.s o)),(12, .v (N (A k))),(13,E' k)],[(1000,⟨0,[.v (.s name), .v (.s m), .v (.s o), .v (.s g), .v (.s y), .v (E need), .v (.sl (sh.map .s))],false,none⟩)],1031⟩) (fun k=>k<=n) 0 (fun _=>bZ rfl) (aJ _) ?_ ?_
    ·simp only[hA0];refine AS.Le.LA [(10, .sl (pts.map dr))] [1021] (fun m hm=>by rw[dt.1 hm];exact⟨by decide,rfl⟩) (by intro p hp;rw[dt.1 hp];simp[aO,az,view,aV,g1,g2,g3,g4,dC,gP]) (by first|decide|omega) ?_ ?_
     all_goals simp[dy,dx,aO,az,AV.bd,AV.bd.bdL]
    ·intro k hk R hR
     by_cases hkn:k<n
     ·have hgo:=hR (k+1) oO oO;have e5:=o6 nh (i:=k) oO;have hi2:=hI2 k;have hll:=hlL k;have gk:=he _ (aq 0 (show k<nh.length by omega))
      have hw:=hpw _ gk (aX (oF q pts x k)) (vN oO);rw[aP]at hw;have gA:=hgpA k;have hml:=KJ lm lo hE gA (gk.dh m1 false (oF q pts x k));rw[hA1 k hkn]at hgo;generalize nh.getD k 0=ek at*;generalize oF q pts x k=lk at*;generalize A k=ak at*;generalize dh (num m) ek false lk=pk at*;generalize ak*pk%num m=a2 at*;have u0:(aE (List.replicate n 0)).length=n:=by rw[bw];simp
      have u1:List.take k (aE (List.replicate n 0))++[AV.v (N 1)]++List.drop (k+1) (aE (List.replicate n 0))=aE (uv n k):=ec (x:=1) (by simpa using hkn)
      have ul:(uv n k).length=n:=by simp[uv]
      have x1:=db ul;have x2:=eX (uv n k);have x3:=dJ ul;have x4:(aE (uv n k)).length=n:=by rw[bw,ul]
      clear hR hI2 hlL hpw hgpA hA1 hat;repeat' first|simp only[go_sem,seval,lP,lEl,e5,fX,u0,u1,hwx oT]|refine cP o1 ?_|refine cP ox ?_|(refine nk [1037] hi2 rfl (by simp[aV,az,x1,x2,x3,x4,gP]) (by simp[bz,view,az,x1,x2,x3,x4,dC]) ?_)|refine cP hw ?_|refine cP hml ?_|refine oE ?_|apply xX<;>intro hc
      refine hgo _ ?_;exact lE
     ·obtain rfl:k=n:=oO;clear hR hI2 hlL hpw hgpA hA1 hat;exact gn @lP
theorem X8:aD 54 [E 1] (.agg [.b false, .s [1]]):=X7
theorem V1 {a:Bytes} (h:aa a=true):aD 45 [.s a] (.agg [.b false, .s a]):=by
 have hm:=Ar false a;have hv:=aK a;rw[h]at hv;refine eW call45 func45 ?_;exact z2 @hv @hm
theorem Hf (c:CK):aD 42 [c.pv] (.agg [.s c.o, .s [2]]):=by
 have h:aD 55 [.i .u64 2] (.s [2]):=ig 2 oC;unfold CK.pv;refine eW call42 func42 ?_;exact z1 @h
theorem KL (c:CK) (hn:c.name.length<=1000) (hi:i<100):aD 43 [c.pv,E i] (.s (mc c i)):=by
 have h:=qR i oO;have hl:(Lib.decDigits i).length<=2:=by
  have: ∀i,i<100->(Lib.decDigits i).length<=2:=by decide+kernel
  exact this i hi
 unfold CK.pv mc;generalize Lib.decDigits i=d at*;refine eW call43 func43 ?_;repeat' first|simp only[go_sem,seval,bJ]|refine cP h ?_|refine oE ?_|apply xX<;>intro hc
 all_goals rfl
theorem KN (c:CK) (h1:1<=i) (hi:i<=c.sh.length) (hl:c.sh.length<1000000) (a d:Bytes):aD 44 [c.pv,E i, .s a, .s d] (eB c i a d).pv:=by
 obtain⟨j,rfl⟩: ∃j,i=j+1:=⟨i-1,oO⟩;have e1:=dM (l:=c.sh) (x:=j) oO;have hw: ∀ _:True,IntKind.i64.wrap (((j+1:Nat):Int)-1)=(j:Int):=fun _=>by rw[IntWalk.i64_in _ oO];omega
 have l1:(c.sh.map PV.s).length=c.sh.length:=aB ..;unfold eB CK.pv cG.pv;rw[jw];have c1:=X8;generalize c.sh.getD j []=t at*;simp only[da.pv,br,bK,eF.pv,AQ];refine eW call44 func44 ?_;exact mi (aN (hw oT) (aN @l1 @e1)) @c1
theorem KM (c:CK) (lm:c.m.length<=8) (lo:c.o.length<=8) {xs:List Bytes} (hx:xs.length<1000000):aD 38 [c.pv, .sl (xs.map .s)] (.b (xs.all (jn c.m c.o))):=by
 have l2:(xs.map PV.s).length=xs.length:=aB ..;obtain⟨name,m,o,g,y,need,sh⟩:=c;simp only[CK.pv]at*;refine eW call38 func38 ?_;refine pU ?_;refine af (α:=Nat) (fun i=>xs.length-i) (fun i=>⟨[(1, .v (.sl (xs.map .s))),(2, .p 1000 0 0),(5,E' i)],[(1000,⟨0,[.v (.s name), .v (.s m), .v (.s o), .v (.s g), .v (.s y), .v (E need), .v (.sl (sh.map .s))],false,none⟩)],_⟩) (fun i=>i<=xs.length/\(xs.drop i).all (jn m o)=xs.all (jn m o)) 0 (fun _=>ay _) ⟨aJ _,rfl⟩ ?_ ?_
 ·exact lE
 ·rintro k ⟨hi,hf⟩ R hR;rw[<-hf]
  by_cases hlt:k<xs.length
  ·have e1:=dM hlt;have hgo:=hR (k+1);rw[<-hf]at hgo;rw[aT [] hlt,List.all_cons]at hgo⊢;generalize xs.getD k []=x at*;have hv:=oH lm lo x;clear hR hf;generalize jn m o x=b at*;cases b
   ·repeat' first|simp only[go_sem,seval,l2,e1]|refine cP hv ?_|refine oE ?_|apply xX<;>intro hc
    all_goals simp
   ·have hgo:=hgo ⟨oO,by simp⟩ oO
    exact gV (aN @l2 @e1) @hgo @hv
  ·obtain rfl:k=xs.length:=oO;rw[cO];exact gn @l2
