/-
  Part of the proof, part KC45. Own work.
-/
import Derived.Test.YtmobkhegihemeaaGreatDoorKC40
import Derived.Test.YtmobkhegihemeaaGreatDoorKC44
set_option linter.all false
namespace Go.Proofs.YtmobkhegihemeaaGreatDoor
open Go Go.Dom Go.Num
set_option maxRecDepth 100000
set_option maxHeartbeats 16000000
def mL (n:Nat) (l:List Int):List Int:=(List.range n).map fun j=>l.getD j 0
def qC (q:Int) (p:List Int) (a:Int) (n k:Nat):List Int:=(List.range n).map fun t=>if t<k then(kd q p a).getD t 0 else if t=k then(0::p).getD t 0 else 0
theorem Ec {n j:Nat} (f:Nat→Int) (h:j<n):((List.range n).map f).getD j 0=f j:=by
 rw[aX,cH,iA h];rfl
theorem qF (n:Nat) (l:List Int):(mL n l).length=n:=by simp[mL]
theorem Cb {n j:Nat} (l:List Int) (h:j<n):(mL n l).getD j 0=l.getD j 0:=Ec _ h
theorem qD (q:Int) (p:List Int) (a:Int) (n k:Nat):(qC q p a n k).length=n:=by simp[qC]
theorem TP (q:Int) (p:List Int) (a:Int) (n:Nat):tN (qC q p a n 0)=List.replicate n 0:=by
 unfold tN qC;refine mi fun t=> ?_
 by_cases ht:t<n
 ·rw[cH,cH,iA ht,uE,if_pos ht]
  cases t with
  |zero=>simp
  |succ t=>simp
 ·rw[iB (by simp;omega),iB (by simp;omega)]
theorem Ru (q:Int) (p:List Int) (a:Int) {n k:Nat} (h:k<n):(qC q p a n k).getD k 0=(0::p).getD k 0:=by
 rw[qC,Ec _ h,if_neg (by omega),if_pos rfl]
theorem Kc (q:Int) (p:List Int) (a:Int) {n k:Nat} (h:k+1<n):(qC q p a n k).getD (k+1) 0=0:=by
 rw[qC,Ec _ h,if_neg (by omega),if_neg (by omega)]
theorem Kd (q:Int) (p:List Int) (a:Int) {n k:Nat} (h:k+1<n):((qC q p a n k).set k ((kd q p a).getD k 0)).set (k+1) (p.getD k 0)=qC q p a n (k+1):=by
 refine mi fun t=> ?_
 by_cases ht:t<n
 ·rw[mj,mj,qC,qC,cH,cH,iA ht];simp only[eP,aH,nH,Option.map_some]
  by_cases e:k+1=t
  ·subst e;rw[if_pos rfl,if_pos h,if_neg (by omega),if_pos rfl];rfl
  ·rw[if_neg e]
   by_cases e2:k=t
   ·subst e2;rw[if_pos rfl,if_pos (by omega),if_pos (by omega)]
   ·rw[if_neg e2]
    by_cases e3:t<k
    ·rw[if_pos e3,if_pos (by omega)]
    ·rw[if_neg e3,if_neg (by omega),if_neg (by omega),if_neg (by omega)]
 ·rw[iB (by rw[eP,eP,qD];omega),iB (by rw[qD];omega)]
theorem Kb (q:Int) (p:List Int) (a:Int) {n k:Nat} (h:k+1=n):(qC q p a n k).set k ((kd q p a).getD k 0)=qC q p a n (k+1):=by
 refine mi fun t=> ?_
 by_cases ht:t<n
 ·rw[mj,qC,qC,cH,cH,iA ht];simp only[aH,nH,Option.map_some]
  by_cases e2:k=t
  ·subst e2;rw[if_pos rfl,if_pos (by omega),if_pos (by omega)]
  ·rw[if_neg e2,if_pos (by omega),if_pos (by omega)]
 ·rw[iB (by rw[eP,qD];omega),iB (by rw[qD];omega)]
theorem NM (q:Int) (p:List Int) (a:Int) (n:Nat):qC q p a n n=mL n (kd q p a):=by
 unfold qC mL;exact l9 fun t ht=>by rw[if_pos (dk.1 ht)]
theorem Ku {n:Nat} (h:0<n):(List.replicate n 0).set 0 1=tN (mL n [1]):=by
 refine mi fun t=> ?_
 by_cases ht:t<n
 ·rw[mj,tN,mL,cH,cH,iA ht]
  cases t with
  |zero=>simp[h]
  |succ t=>rw[if_neg (by omega),uE,if_pos ht];rfl
 ·rw[iB (by simp;omega),iB (by rw[ix,qF];omega)]
theorem B1 (q a:Int) (p:List Int) (k:Nat):(kd q p a).getD k 0=((0::p).getD k 0-p.getD k 0*a%q)%q:=DK q a p k
theorem xS {q:Nat} (hq:q<18446744073709551616) (h1:1<q) {xs ys:List Nat} (hx: ∀a∈xs,a<18446744073709551616) (hy: ∀a∈ys,a<18446744073709551616) (hl:ys.length=xs.length) (hxl:xs.length<1000000) (hg: ∀i,i<xs.length→Nat.gcd (th q (xs.getD i 0:Nat) ((nI xs).eraseIdx i)).toNat q=1):aD Tryz.prog 143 [N q, .sl (xs.map cA), .sl (ys.map cA)] (.sl ((pL q xs ys).map cA)):=by
 have q0:0<q:=by omega
 obtain⟨n,hn⟩: ∃n,n=xs.length:=⟨_,rfl⟩;have lX:(xs.map cA).length=n:=by rw[aH,hn]
 have lY:ys.length=n:=by rw[hl,hn]
 have lI:(nI xs).length=n:=by rw[pB,hn]
 obtain⟨P,hP⟩: ∃P:Nat→List Int,P=fun k=>xR q ((nI xs).eraseIdx k):=⟨_,rfl⟩
 obtain⟨f,hf⟩: ∃f:Nat→Int,f=fN q xs ys:=⟨_,rfl⟩;have hT:pL q xs ys=tN (eu q P f n n 0):=by
  unfold pL;rw[←lI,hP,Ca,hf]
 rw[hT];have r0:tN (eu q P f n 0 0)=List.replicate n 0:=by rw[Kt];simp[tN]
 have rl: ∀i,(tN (eu q P f n i 0)).length=n:=fun i=>by rw[ix,j6]
 have o1:aD Tryz.prog 39 [.i .u64 1] (N 1):=gP 1 (by decide)
 have w2:=iS;have md:=hO (a:=1) (m:=q) (by omega) (by omega) q0
 rw[bA h1]at md;clear hT;refine eW Tryz.call143 Tryz.func143 ?_;repeat' first|simp only[go_sem,seval,lX,fb]|refine sB ?_|(first|apply pX|apply bX)<;>intro hc|refine⟨oD,?_⟩|exact oD|fail
 refine aj (α:=Nat) (fun i=>n-i) (fun i=>⟨[(0, .v (N q)),(1, .v (.sl (xs.map cA))),(2, .v (.sl (ys.map cA))),(7,E' n),(8, .rs 1005 0 0 n 1),(9,E' i)],[(1005,⟨0,az (tN (eu q P f n i 0)),false,none⟩)],_⟩) (fun i=>i≤n) 0 (fun _=>au _) (aL _) ?_ ?_
 ·rw[r0]
  (refine AS.Le.of (by first|decide|omega) ?_ ?_<;>simp[cl,cj,aF,ar,AV.bd,AV.bd.bdL,u8,ah,ai,aq])
  all_goals exact fun c hc=>cZ hc
 ·intro i hi Ro hRo
  by_cases hlt:i<n
  ·have hi':i<xs.length:=by omega
   have hpos:0<n:=by omega
   obtain⟨x,hxi⟩: ∃x:Nat,x=xs.getD i 0:=⟨_,rfl⟩;obtain⟨L,hL⟩: ∃L:List Int,L=nI xs:=⟨_,rfl⟩;have hgi:=hg i hi';rw[←hL,←hxi]at hgi;have hfi0:f i=((ys.getD i 0*eV (th q x (L.eraseIdx i)).toNat q%q:Nat):Int):=by rw[hf,hL,hxi];rfl
   have hpi:P i=xR q (L.eraseIdx i):=by rw[hP,hL]
   have z0:(az (List.replicate n 0)).length=n:=by rw[aS,ux]
   have z1:AV.v (N 1)::List.drop 1 (az (List.replicate n 0))=az (tN (mL n [1])):=by
    rw[←Ku hpos];exact dc (l:=List.replicate n 0) (o:=0) (x:=1) (by simpa using hpos)
   have hroP:=hRo;clear hg hRo;repeat' first|simp only[go_sem,seval,lX,fb,z0,z1]|refine cP o1 ?_|refine cP md ?_|refine sB ?_|(first|apply pX|apply bX)<;>intro hc|refine⟨oD,?_⟩|exact oD|fail
   have pl:=fun p=>(show(tN (mL n p)).length=n by rw[ix,qF])
   have py1:=cu (pl [1]);have py2:=dK (tN (mL n [1]));have py3:=cK (pl [1]);have py4:(az (tN (mL n [1]))).length=n:=by rw[aS,pl]
   refine aj (α:=Nat) (fun k=>n-k) (fun k=>⟨[(10, .v (.sl ((tN (mL n (xR q (nP L i k)))).map cA))),(0, .v (N q)),(1, .v (.sl (xs.map cA))),(2, .v (.sl (ys.map cA))),(7,E' n),(8, .rs 1005 0 0 n 1),(9,E' i),(11, .v (N (th q x (nP L i k)).toNat)),(12,E' k)],[(1005,⟨0,az (tN (eu q P f n i 0)),false,none⟩)],1023⟩) (fun k=>k≤n) 0 (fun _=>bQ rfl) (aL _) ?_ ?_
   ·have ex0:xR (q:Int) (nP L i 0)=[1]:=by rw[Jp];rfl
    have ex1:N (th (q:Int) x (nP L i 0)).toNat=N 1:=by rw[Jp];rfl
    simp only[ex0,ex1];refine AS.Le.Kg [(10, .sl ((tN (mL n [1])).map cA))] [1012] (fun m hm=>by rw[cO.1 hm];exact⟨by decide,rfl⟩) (by intro p hp;rw[cO.1 hp];simp[aF,ar,view,aN,py1,py2,py3,py4,cF,fD]) (by first|decide|omega) ?_ ?_
    all_goals simp[cl,cj,aF,ar,AV.bd,AV.bd.bdL]
    all_goals exact fun c hc=>cZ hc
   ·intro k hk R hR
    by_cases hkn:k<n
    ·have e2:=mZ xs (i:=k) (by omega)
     by_cases hki:k=i
     ·have hex:nP L i (k+1)=nP L i k:=by rw[hki];exact Jq (by rw[hL];omega)
      have hgo:=hR (k+1) (by omega) (by omega)
      rw[hex]at hgo;clear hR hroP;repeat' first|simp only[go_sem,seval,lX]|refine sB ?_|(first|apply pX|apply bX)<;>intro hc|refine⟨oD,?_⟩|exact oD|fail
      refine hgo _ ?_
      (refine AS.Le.of (by first|decide|omega) ?_ ?_<;>simp[cl,cj,aF,ar,AV.bd,AV.bd.bdL,u8,ah,ai,aq])
      all_goals exact fun c hc=>cZ hc
     ·have hex:nP L i (k+1)=nP L i k++[((xs.getD k 0:Nat):Int)]:=by rw[Jr (by rw[hL];omega) hki,hL,qy]
      have hgo:=hR (k+1) (by omega) (by omega)
      simp only[hex,BW,Cy]at hgo;have xk:=hx _ (ay 0 (show k<xs.length by omega))
      have xi:=hx _ (ay 0 hi');rw[←hxi]at xi;have e3:=mZ xs hi';rw[←hxi]at e3;have hnki: ¬((k:Int)=(i:Int)):=by omega
      have hsi:=sH (q:=(q:Int)) (by omega) x (nP L i k)
      have hin:=zO (q:=(q:Int)) (by omega) (nP L i k)
      generalize xR (q:Int) (nP L i k)=p at*;obtain⟨s0,hs0⟩:=iO hsi;rw[hs0]at hsi hgo⊢;rw[Int.toNat_natCast];generalize xs.getD k 0=y at*;have d1:=KK (a:=x) (b:=y) (q:=q) xi xk hq q0;obtain⟨dn,hdn⟩:=iO (q:=(q:Int)) ⟨fE (((x:Nat):Int)-(y:Nat)) (by omega),fQ _ (by omega)⟩
      have hdl:=fQ (((x:Nat):Int)-(y:Nat)) (show(0:Int)<q by omega)
      rw[hdn]at hdl hgo d1;rw[show(((s0:Nat):Int)*(dn:Nat)%(q:Nat))=((s0*dn%q:Nat):Int) by push_cast;rfl]at hgo
      rw[Int.toNat_natCast]at hgo d1;have d2:=wV (a:=s0) (b:=dn) (q:=q) (by omega) (by omega) hq q0
      generalize s0*dn%q=s2 at*;have z2:az (List.replicate n 0)=az (tN (qC q p y n 0)):=by rw[TP]
      clear hR hroP hfi0 hpi hgi hdn hs0;repeat' first|simp only[go_sem,seval,lX,fb,beq_iff_eq,hnki]|refine sB ?_|(first|apply pX|apply bX)<;>intro hc|refine⟨oD,?_⟩|exact oD|fail
      have plp:=pl p;have nl:=fun j=>(show(tN (qC q p y n j)).length=n by rw[ix,qD])
      refine aj (α:=Nat) (fun j=>n-j) (fun j=>⟨[(0, .v (N q)),(1, .v (.sl (xs.map cA))),(2, .v (.sl (ys.map cA))),(7,E' n),(8, .rs 1005 0 0 n 1),(9,E' i),(10, .v (.sl ((tN (mL n p)).map cA))),(11, .v (N s0)),(12,E' k),(13, .rs 1030 0 0 n 1),(14,E' j)],[(1005,⟨0,az (tN (eu q P f n i 0)),false,none⟩),(1030,⟨0,az (tN (qC q p y n j)),false,none⟩)],1033⟩) (fun j=>j≤n) 0 (fun _=>bQ rfl) (aL _) ?_ ?_
      ·rw[←z2]
       (refine AS.Le.of (by first|decide|omega) ?_ ?_<;>simp[cl,cj,aF,ar,AV.bd,AV.bd.bdL,u8,ah,ai,aq])
       all_goals exact⟨fun c hc=>cZ hc,fun c hc=>cZ hc⟩
      ·intro j hj R hR
       by_cases hjn:j<n
       ·have hg2:=hR (j+1) (by omega) (by omega)
        have e4:=yr (mL n p) (i:=j) (by rw[qF];exact hjn)
        rw[Cb p hjn]at e4;have hm:=B1 (q:Int) y p j;obtain⟨c,hc⟩:=iO (hin j);have hcq:=(hin j).2;obtain⟨v,hv⟩:=iO (x:=(0::p).getD j 0) (q:=q) (by
         cases j with
         |zero=>exact⟨kB _,by simp;omega⟩
         |succ j=>exact hin j)
        have hvq:v<q:=by
         have:(0::p).getD j 0<(q:Int):=by
          cases j with
          |zero=>simp;omega
          |succ j=>exact(hin j).2
         omega
        rw[hc,hv]at hm;rw[hc]at hcq e4;rw[Int.toNat_natCast]at e4;have na:=Ru (q:Int) p y hjn;rw[hv]at na;have m2:=wV (a:=c) (b:=y) (q:=q) (by omega) xk hq q0
        have m3:=KK (a:=v) (b:=c*y%q) (q:=q) (by omega) (by have:=aG (c*y) q0;omega) hq q0
        rw[show(((c*y%q:Nat):Int))=(c:Int)*y%q by push_cast;rfl,←hm]at m3
        have m4:=DZ (a:=0) (b:=c) (q:=q) (by decide) (by omega) hq q0
        rw[cW,bA (by omega)]at m4
        have nlj:=nl j;have g0:(az (tN (qC q p y n j))).length=n:=by rw[aS,nlj]
        have g1:(az (tN (qC q p y n j))).getD j .u= .v (N v):=by rw[fa (by omega),iQ,na];rfl
        have hs1:=nk (qC q p y n j) j ((kd q p y).getD j 0)
        by_cases hj1:j+1<n
        ·have nn2:=Kc (q:Int) p y hj1;have st:=Kd (q:Int) p y hj1;rw[hc]at st;have hs2:=nk ((qC q p y n j).set j ((kd q p y).getD j 0)) (j+1) (c:Int);rw[st,←hs1,Int.toNat_natCast]at hs2;rw[←hs2]at hg2;have na2:((tN (qC q p y n j)).set j ((kd q p y).getD j 0).toNat).getD (j+1) 0=0:=by
          have:(tN (qC q p y n j)).getD (j+1) 0=0:=by rw[iQ,nn2];rfl
          rw[aX,A1 (by omega),←aX]
          exact this
         generalize ((kd q p y).getD j 0).toNat=w at*;generalize tN (qC q p y n j)=R0 at*;have g2:List.take j (az R0)++[AV.v (.s (aP w))]++List.drop (j+1) (az R0)=az (R0.set j w):=dc (by omega)
         have g3:(az (R0.set j w)).getD (j+1) .u= .v (N 0):=by rw[fa (by rw[eP];omega),na2]
         have g4:(az (R0.set j w)).length=n:=by rw[aS,eP,nlj]
         have g5:List.take (j+1) (az (R0.set j w))++[AV.v (.s (aP c))]++List.drop (j+1+1) (az (R0.set j w))=az ((R0.set j w).set (j+1) c):=dc (by rw[eP];omega)
         have ht1: ∀ _:True,((j:Int)+1).toNat=j+1:=fun _=>by omega
         have hb1: ∀ _:True,decide ((j:Int)+1<(n:Int))=true:=fun _=>decide_eq_true (by omega)
         clear hR hgo hin nl nn2 st hs1 hs2 na hm hv hc;repeat' first|simp only[go_sem,seval,lX,plp,e2,e4,g0,g1,g2,g3,g4,g5,ht1 trivial,hb1 trivial]|refine cP m2 ?_|refine cP m3 ?_|refine cP m4 ?_|refine sB ?_|(first|apply pX|apply bX)<;>intro hc|refine⟨oD,?_⟩|exact oD|fail
         refine hg2 _ ?_
         (refine AS.Le.of (by first|decide|omega) ?_ ?_<;>simp[cl,cj,aF,ar,AV.bd,AV.bd.bdL,u8,ah,ai,aq])
         all_goals exact⟨fun c hc=>cZ hc,fun c hc=>cZ hc⟩
        ·have st:=Kb (q:Int) p y (show j+1=n by omega)
         rw[st]at hs1;rw[←hs1]at hg2;generalize ((kd q p y).getD j 0).toNat=w at*;generalize tN (qC q p y n j)=R0 at*;have g2:List.take j (az R0)++[AV.v (.s (aP w))]++List.drop (j+1) (az R0)=az (R0.set j w):=dc (by omega)
         have g4:(az (R0.set j w)).length=n:=by rw[aS,eP,nlj]
         have hb1: ∀ _:True,decide ((j:Int)+1<(n:Int))=false:=fun _=>decide_eq_false (by omega)
         clear hR hgo hin nl st hs1 na hm hv hc;repeat' first|simp only[go_sem,seval,lX,plp,e2,e4,g0,g1,g2,g4,hb1 trivial]|refine cP m2 ?_|refine cP m3 ?_|refine sB ?_|(first|apply pX|apply bX)<;>intro hc|refine⟨oD,?_⟩|exact oD|fail
         refine hg2 _ ?_
         (refine AS.Le.of (by first|decide|omega) ?_ ?_<;>simp[cl,cj,aF,ar,AV.bd,AV.bd.bdL,u8,ah,ai,aq])
         all_goals exact⟨fun c hc=>cZ hc,fun c hc=>cZ hc⟩
       ·obtain rfl:j=n:=by omega
        clear hR;have hend:=NM (q:Int) p y j;rw[hend];generalize kd (q:Int) p y=p2 at*;have k1:=cu (pl p2);have k2:=dK (tN (mL j p2));have k3:=cK (pl p2);have k4:(az (tN (mL j p2))).length=j:=by rw[aS,pl]
        clear nl z2 hend hin;repeat' first|simp only[go_sem,seval,lX,e2,e3]|refine cP d1 ?_|refine cP d2 ?_|refine sB ?_|(first|apply pX|apply bX)<;>intro hc|refine⟨oD,?_⟩|exact oD|fail
        refine hgo _ ?_;refine AS.Le.Kg [(10, .sl ((tN (mL j p2)).map cA))] [1030] (fun m hm=>by rw[cO.1 hm];exact⟨by decide,rfl⟩) (by intro p hp;rw[cO.1 hp];simp[aF,ar,view,aN,k1,k2,k3,k4,cF,fD]) (by first|decide|omega) ?_ ?_
        all_goals simp[cl,cj,aF,ar,AV.bd,AV.bd.bdL]
        all_goals exact fun c hc=>cZ hc
    ·obtain rfl:k=n:=by omega
     have hLl:L.length=k:=by rw[hL,lI]
     have hxe:nP L i k=L.eraseIdx i:=by rw[←hLl];exact Fc L i
     rw[hxe,←hpi];have hsi:=sH (q:=(q:Int)) (by omega) x (L.eraseIdx i)
     have hin:Ih (q:Int) (P i):=by rw[hpi];exact zO (by omega) _
     obtain⟨s,hs⟩:=iO hsi;rw[hs]at hgi hsi hfi0⊢;rw[Int.toNat_natCast]at hgi hfi0⊢;have hPi:P i=(P i):=rfl;obtain⟨p,hpp⟩: ∃p,p=P i:=⟨_,rfl⟩;rw[←hpp]at hin⊢;have plp:=pl p;have yi:=hy _ (ay 0 (show i<ys.length by omega))
     have e5:=mZ ys (i:=i) (by omega)
     have lY':(ys.map cA).length=k:=by rw[aH,lY]
     generalize ys.getD i 0=yv at*;obtain⟨fi,hfi⟩: ∃fi:Nat,f i=fi:=⟨_,hfi0⟩;have hfv:fi=yv*eV s q%q:=by rw[hfi]at hfi0;exact Int.ofNat.inj hfi0
     have hiv:=(fA q0 hgi).inv.1;have hgi2:=hgi;clear hR hgi hs hxe;repeat' first|simp only[go_sem,seval,lX]|refine sB ?_|(first|apply pX|apply bX)<;>intro hc|refine⟨oD,?_⟩|exact oD|fail
     refine aj (α:=Nat) (fun j=>k-j) (fun j=>⟨[(0, .v (N q)),(1, .v (.sl (xs.map cA))),(2, .v (.sl (ys.map cA))),(7,E' k),(8, .rs 1005 0 0 k 1),(9,E' i),(10, .v (.sl ((tN (mL k p)).map cA))),(11, .v (N s)),(15,E' j)],[(1005,⟨0,az (tN (eu q P f k i j)),false,none⟩)],1027⟩) (fun j=>j≤k) 0 (fun _=>bQ rfl) (aL _) ?_ ?_
     ·(refine AS.Le.of (by first|decide|omega) ?_ ?_<;>simp[cl,cj,aF,ar,AV.bd,AV.bd.bdL,u8,ah,ai,aq])
      all_goals exact fun c hc=>cZ hc
     ·intro j hj R hR
      by_cases hjn:j<k
      ·have hg2:=hR (j+1) (by omega) (by omega)
       have e4:=yr (mL k p) (i:=j) (by rw[qF];exact hjn)
       rw[Cb p hjn]at e4;have ho1:(tN (eu q P f k i j)).getD j 0=(xL q P f j i).toNat:=by rw[iQ,zU hjn]
       have ho2:(tN (eu q P f k i j)).set j (xL q P f j (i+1)).toNat=tN (eu q P f k i (j+1)):=by rw[nk,su hjn]
       have hol:(tN (eu q P f k i j)).length=k:=by rw[ix,j6]
       rw[←ho2]at hg2;obtain⟨a0,ha0⟩:=iO (pf (q:=(q:Int)) (by omega) P f j i)
       have ha0q:=(pf (q:=(q:Int)) (by omega) P f j i).2
       have hstep:xL q P f j (i+1)=(xL q P f j i+p.getD j 0*f i%q)%q:=by rw[hpp];rfl
       obtain⟨c,hc⟩:=iO (hin j);have hcq:=(hin j).2;rw[hc]at hcq e4 hstep;rw[ha0]at ho1 ha0q hstep;rw[hfi,show((a0:Int)+(c:Int)*(fi:Int)%q)%q=(((a0+c*fi%q)%q:Nat):Int) by push_cast;rfl]at hstep
       rw[hstep]at hg2;rw[Int.toNat_natCast]at e4 ho1 hg2;have m1:=wV (a:=c) (b:=yv) (q:=q) (by omega) yi hq q0
       have l1:=aG (c*yv) q0;have m2:=Sg (a:=c*yv%q) (b:=s) (q:=q) (by omega) (by omega) hq q0 hgi2
       have hcm:c*yv%q*eV s q%q=c*fi%q:=by rw[hfv,iV,jQ,bY]
       rw[hcm]at m2;have m3:=DZ (a:=a0) (b:=c*fi%q) (q:=q) (by omega) (by have:=aG (c*fi) q0;omega) hq q0
       generalize (a0+c*fi%q)%q=z at*;generalize tN (eu q P f k i j)=R0 at*;have g0:(az R0).length=k:=by rw[aS,hol]
       have g1:(az R0).getD j .u= .v (N a0):=by rw[fa (by omega),ho1]
       have g2:List.take j (az R0)++[AV.v (.s (aP z))]++List.drop (j+1) (az R0)=az (R0.set j z):=dc (by omega)
       clear hR hroP hstep ho2 ho1 hin hcm;repeat' first|simp only[go_sem,seval,lX,lY',plp,e4,e5,g0,g1,g2]|refine cP m1 ?_|refine cP m2 ?_|refine cP m3 ?_|refine sB ?_|(first|apply pX|apply bX)<;>intro hc|refine⟨oD,?_⟩|exact oD|fail
       refine hg2 _ ?_
       (refine AS.Le.of (by first|decide|omega) ?_ ?_<;>simp[cl,cj,aF,ar,AV.bd,AV.bd.bdL,u8,ah,ai,aq])
       all_goals exact fun c hc=>cZ hc
      ·obtain rfl:j=k:=by omega
       rw[ss];have hgo:=hroP (i+1) (by omega) (by omega)
       clear hR hroP;repeat' first|simp only[go_sem,seval,lX]|refine sB ?_|(first|apply pX|apply bX)<;>intro hc|refine⟨oD,?_⟩|exact oD|fail
       refine hgo _ ?_
       (refine AS.Le.of (by first|decide|omega) ?_ ?_<;>simp[cl,cj,aF,ar,AV.bd,AV.bd.bdL,u8,ah,ai,aq])
       all_goals exact fun c hc=>cZ hc
  ·obtain rfl:i=n:=by omega
   have k1:=cu (rl i);have k2:=dK (tN (eu q P f i i 0));have k3:=cK (rl i);have k4:(az (tN (eu q P f i i 0))).length=i:=by rw[aS,rl]
   clear hRo hg;repeat' first|simp only[go_sem,seval,lX,k1,k2,k3,k4,cF]|refine sB ?_|(first|apply pX|apply bX)<;>intro hc|refine⟨oD,?_⟩|exact oD|fail
   all_goals rfl
theorem zX {q:Nat} (hq:q<18446744073709551616) (hp:dS q=true) {xs ys:List Nat} {x:Nat} (hl:ys.length=xs.length) (h256:xs.length≤256) (hx: ∀a∈xs,a<q) (hy: ∀a∈ys,a<q) (hxq:x<q) (hd:xs.Nodup) (hg: ∀i,i<xs.length→Nat.gcd (th q (xs.getD i 0:Nat) ((nI xs).eraseIdx i)).toNat q=1):aD Tryz.prog 89 [N q, .sl (xs.map cA), .sl (ys.map cA),N x] (.tup [N (DF q xs ys x),E 0]):=by
 have h2:=vY hp;have c1:=zY hq hp hl h256 hx hy hxq hd;have c2:=xS hq (by omega) (fun a h=>by have:=hx a h;omega) (fun a h=>by have:=hy a h;omega) hl (by omega) hg
 have c3:=KM hq (by omega) (cs:=pL q xs ys) (fun c hc=>by have:=Gb (by omega) xs ys c hc;omega) (x:=x) (by omega) (by rw[CS];omega)
 unfold DF;refine eW Tryz.call89 Tryz.func89 ?_;repeat' first|simp only[go_sem,seval]|refine cP c1 ?_|refine cP c2 ?_|refine cP c3 ?_|refine sB ?_|(first|apply pX|apply bX)<;>intro hc|refine⟨oD,?_⟩|exact oD|fail
theorem HF {m:Bytes} (lm:m.length≤8) {o:Bytes} (lo:o.length≤8) (hE:gE m o=0) {a b:Nat} (ha:GP m o a) (hb:GP m o b):aD Tryz.prog 90 [G m o,N a,N b] (.tup [N (a*b%num m),E 0]):=by
 have hM:=ep lm;have m1:=(jY hE).2.2.1;have vm:=(jY hE).1;have la:=ha.lt;have lb:=hb.lt;have va:=aO (aP a);rw[vN (show a<18446744073709551616 by omega)]at va
 have vb:=aO (aP b);rw[vN (show b<18446744073709551616 by omega)]at vb
 have hc:=lU lm lo;rw[hE]at hc;have i1:=oF lm o hE (vN (show a<18446744073709551616 by omega))
 rw[ha.has hE lm]at i1;have i2:=oF lm o hE (vN (show b<18446744073709551616 by omega))
 rw[hb.has hE lm]at i2;have mm:=Pz (a:=a) (b:=b) (m:=num m) (by omega) (by omega) hM (by omega)
 rw[fq vm]at mm;refine eW Tryz.call90 Tryz.func90 ?_;repeat' first|simp only[go_sem,seval]|refine cP va ?_|refine cP vb ?_|refine cP hc ?_|refine cP i1 ?_|refine cP i2 ?_|refine cP mm ?_|refine sB ?_|(first|apply pX|apply bX)<;>intro hc|refine⟨oD,?_⟩|exact oD|fail
theorem HE {m:Bytes} (lm:m.length≤8) {o:Bytes} (lo:o.length≤8) (hE:gE m o=0) {a:Nat} (ha:GP m o a) {e:Bytes} (he:aa e=true):aD Tryz.prog 144 [G m o,N a, .agg [.b false, .s e]] (.tup [N (cL (num m) a false (num e)),E 0]):=by
 have hM:=ep lm;have la:=ha.lt;have va:=aO (aP a);rw[vN (show a<18446744073709551616 by omega)]at va
 have vi:=pG false e;rw[he]at vi;have hc:=lU lm lo;rw[hE]at hc;have i1:=oF lm o hE (vN (show a<18446744073709551616 by omega))
 rw[ha.has hE lm]at i1;have rw':=HG lm (o:=o) (x:=a) (ng:=false) (e:=e) hE ha he rfl;refine eW Tryz.call144 Tryz.func144 ?_;repeat' first|simp only[go_sem,seval]|refine cP va ?_|refine cP vi ?_|refine cP hc ?_|refine cP i1 ?_|refine cP rw' ?_|refine sB ?_|(first|apply pX|apply bX)<;>intro hc|refine⟨oD,?_⟩|exact oD|fail
 all_goals rfl
theorem Ck (c:CK) (lm:c.m.length≤8) (lo:c.o.length≤8) (hE:gE c.m c.o=0) {a:Nat} (ha:GP c.m c.o a) {e:Bytes} (he:aa e=true):aD Tryz.prog 91 [c.pv,N a, .s e] (N (cL (num c.m) a false (num e))):=by
 obtain⟨name,m,o,g,y,need,sh⟩:=c;simp only[CK.pv]at*;have hf:aD Tryz.prog 145 [.s e] (.agg [.b false, .s e]):=by
  have hm:=Cl false e;have hv:=aO e;rw[he]at hv;refine eW Tryz.call145 Tryz.func145 ?_;repeat' first|simp only[go_sem,seval]|refine cP hv ?_|refine cP hm ?_|refine sB ?_|(first|apply pX|apply bX)<;>intro hc|refine⟨oD,?_⟩|exact oD|fail
  all_goals rfl
 have hx:=HE lm lo hE ha he;refine eW Tryz.call91 Tryz.func91 ?_;repeat' first|simp only[go_sem,seval]|refine cP hf ?_|refine cP hx ?_|refine sB ?_|(first|apply pX|apply bX)<;>intro hc|refine⟨oD,?_⟩|exact oD|fail
theorem wR {M:Nat}: ∀(l:List (Nat×(Bool×Bytes))) (x:Nat),x<M→kS M x l=x*C9 M l%M
 |[],x,h=>by rw[FL,jQ,dP,bA h];rfl
 |(a,e)::r,x,h=>by
  rw[kS,wR r _ (aG _ (by omega)),wP,iV,jQ,bY]
theorem wS (M:Nat): ∀(l:List (Nat×(Bool×Bytes))) (x a:Nat) (e:Bytes),kS M x (l++[(a,false,e)])=kS M x l*cL M a false (num e)%M
 |[],x,a,e=>rfl
 |(b,ng,f)::r,x,a,e=>by rw[List.cons_append,kS,kS,wS M r]
theorem Ch {m o:Bytes} (m1:1<num m): ∀(l:List (Nat×(Bool×Bytes))) (x:Nat),GP m o x→(∀p∈l,GP m o p.1)→GP m o (kS (num m) x l)
 |[],x,h,_=>h
 |(a,ng,e)::r,x,h,hl=>by
  rw[kS];exact Ch m1 r _ (h.mul ((hl (a,ng,e) (.head _)).cL m1 ng (num e))) fun p hp=>hl p (.tail _ hp)
theorem GP.one {m o:Bytes} (m1:1<num m):GP m o 1:=⟨m1,Nat.gcd_one_left _, .inr (by rw[qY])⟩
theorem xT (c:CK) (lm:c.m.length≤8) (lo:c.o.length≤8) (hE:gE c.m c.o=0) (hp:dS (num c.o)=true) {pts k9:List Nat} (h0:pts≠[]) (hl:k9.length=pts.length) (hd:pts.Nodup) (hb: ∀a∈pts,a≤8∧a<num c.o) (h256:pts.length≤256) (he: ∀x∈k9,GP c.m c.o x) {x:Nat} (hx:x<num c.o):
  aD Tryz.prog 41 [c.pv, .sl (pts.map uP), .sl (k9.map cA),E x] (N (Ia (num c.m) (num c.o) pts k9 x)):=by
 obtain⟨vm,vo,m1,-,-⟩:=jY hE;have hq:=ep lo;have h2:=vY hp;have hg:=fun i (hi:i<pts.length)=>F7 hp hd hb hi
 have hpw:=fun(a:Nat) (ha:GP c.m c.o a) (e:Bytes) (hv:aa e=true)=>Ck c lm lo hE ha hv
 obtain⟨name,m,o,g,y,need,sh⟩:=c;simp only[CK.pv]at*;obtain⟨q,hqq⟩: ∃q,q=num o:=⟨_,rfl⟩;have eo:(PV.s o)=N q:=by rw[hqq,fq vo]
 rw[←hqq]at hp hb hx hq h2 hg⊢;have huv: ∀i,∀a∈uv pts.length i,a<q:=fun i a ha=>by
  unfold uv at ha;rcases List.mem_or_eq_of_mem_set ha with h|h
  ·have:=(AD.1 h).2;omega
  ·omega
 have hI:=fun i=>zX hq hp (xs:=pts) (ys:=uv pts.length i) (x:=x) (by simp[uv]) h256 (fun a h=>(hb a h).2) (huv i) hx hd hg
 have hlL:=fun i=>Fs (q:=q) (by omega) pts x i
 have hOf:=fun i (hi:i<pts.length)=>gP (pts.getD i 0) (by have:=(hb _ (ay 0 hi)).2;omega)
 have hwi:=fun i (hi:i<pts.length)=>(show pts.getD i 0<18446744073709551616 by have:=(hb _ (ay 0 hi)).2;omega)
 have hEv:=fun i (hi:i<pts.length)=>getD_map uP pts 0 hi
 have o1:aD Tryz.prog 39 [.i .u64 1] (N 1):=gP 1 (by decide)
 have ox:aD Tryz.prog 39 [.i .u64 x] (N x):=gP x (by omega)
 have hwx: ∀ _:True,IntKind.u64.wrap (x:Int)=x:=fun _=>IntWalk.u64_in _ (by omega)
 obtain⟨n,hn⟩: ∃n,n=pts.length:=⟨_,rfl⟩;have lP:(pts.map uP).length=n:=by rw[aH,hn]
 have lEl:(k9.map cA).length=n:=by rw[aH,hl,hn]
 have hpos:0<n:=by rw[hn];exact ky.2 h0
 refine eW Tryz.call41 Tryz.func41 ?_;repeat' first|simp only[go_sem,seval]|refine sB ?_|(first|apply pX|apply bX)<;>intro hc|refine⟨oD,?_⟩|exact oD|fail
 refine aj (α:=Nat) (fun j=>n-j) (fun j=>match j with|0=>⟨[(1, .v (.sl (pts.map uP))),(2, .v (.sl (k9.map cA))),(3, .v (E x)),(4, .p 1000 0 0),(9, .v (.s o)),(10, .sn),(11, .v (.i .i64 0))],[(1000,⟨0,[.v (.s name), .v (.s m), .v (.s o), .v (.s g), .v (.s y), .v (E need), .v (.sl (sh.map .s))],false,none⟩)],1009⟩|j+1=>⟨[(1, .v (.sl (pts.map uP))),(2, .v (.sl (k9.map cA))),(3, .v (E x)),(4, .p 1000 0 0),(9, .v (.s o)),(10, .rs 1021 j 0 (j+1) 1),(11,E' (j+1))],[(1000,⟨0,[.v (.s name), .v (.s m), .v (.s o), .v (.s g), .v (.s y), .v (E need), .v (.sl (sh.map .s))],false,none⟩),(1021,⟨j,az (pts.take (j+1)),true,some 22⟩)],1024⟩) (fun j=>j≤n) 0 (fun j=>by cases j<;>exact bQ rfl) (aL _) ?_ ?_
 ·show AS.Le _ _;exact lE
 ·intro j hj R hR
  cases j with
  |zero=>
   have hgo:=hR 1 (by omega) (by omega)
   have e1:=hEv 0 (by omega)
   have c1:=hOf 0 (by omega)
   have w1:=hwi 0 (by omega)
   simp only[dN 0 (show 0<pts.length by omega),List.take_zero,List.nil_append]at hgo
   simp only[uP]at e1;generalize pts.getD 0 0=z at*;have hw1: ∀ _:True,IntKind.u64.wrap (z:Int)=z:=fun _=>IntWalk.u64_in _ (by omega)
   simp only[show az [z]=[AV.v (N z)]from rfl]at hgo
   clear hR hI hOf hwi hEv hg hpw;repeat' first|simp only[go_sem,seval,lP,e1,hw1 trivial]|refine cP c1 ?_|refine sB ?_|(first|apply pX|apply bX)<;>intro hc|refine⟨oD,?_⟩|exact oD|fail
   refine hgo _ ?_;exact lE
  |succ j=>
   have hlm:(pts.take (j+1)).length=j+1:=by rw[cG];omega
   have g1:=cu hlm;have g2:(az (pts.take (j+1))).length=j+1:=by rw[aS,hlm]
   by_cases hlt:j+1<n
   ·have hgo:=hR (j+2) (by omega) (by omega)
    have e1:=hEv (j+1) (by omega)
    have c1:=hOf (j+1) (by omega)
    have w1:=hwi (j+1) (by omega)
    simp only[dN 0 (show j+1<pts.length by omega),j4]at hgo
    simp only[uP]at e1;generalize pts.getD (j+1) 0=z at*;have hw1: ∀ _:True,IntKind.u64.wrap (z:Int)=z:=fun _=>IntWalk.u64_in _ (by omega)
    clear hR hI hOf hwi hEv hg hpw;repeat' first|simp only[go_sem,seval,lP,e1,g1,g2,hw1 trivial]|refine cP c1 ?_|refine sB ?_|(first|apply pX|apply bX)<;>intro hc|refine⟨oD,?_⟩|exact oD|fail
    refine hgo _ ?_
    (refine AS.Le.of (by first|decide|omega) ?_ ?_<;>simp[cl,cj,aF,ar,AV.bd,AV.bd.bdL,u8,ah,ai,aq])
    all_goals exact fun c hc=>hc.elim (fun h=>cZ h) (fun h=>by rw[h];rfl)
   ·have hjn:j+1=n:=by omega
    have hT:pts.take n=pts:=bM (by omega)
    simp only[hjn,hT]at g1 g2⊢;have g3:=dK pts;have g4:=cK (l:=pts) hn.symm;have hI2: ∀i,aD Tryz.prog 89 [.s o, .sl (pts.map cA), .sl ((uv n i).map cA),N x] (.tup [N (mK q pts x i),E 0]):=fun i=>by
     have:=hI i;rw[←eo,←hn]at this;unfold mK;rw[←hn];exact this
    clear hR hOf hwi hEv hg hI;repeat' first|simp only[go_sem,seval,lP]|refine cP o1 ?_|refine sB ?_|(first|apply pX|apply bX)<;>intro hc|refine⟨oD,?_⟩|exact oD|fail
    obtain⟨L,hL⟩: ∃L,L=qu q pts x n:=⟨_,rfl⟩;have hLl:L.length=n:=by rw[hL];simp[qu]
    have zl:(k9.zip L).length=n:=by rw[List.length_zip,hLl];omega
    have zg: ∀k,k<n→(k9.zip L).getD k (0,(false,[]))=(k9.getD k 0,(false,aP (mK q pts x k))):=fun k hk=>by
     have:(k9.zip L)[k]?=some (k9.getD k 0,(false,aP (mK q pts x k))):=by
      rw[Ay];refine⟨?_,?_⟩
      ·show k9[k]?=some (k9.getD k 0);rw[aX,aU (by omega)];rfl
      ·show L[k]?=some (false,aP (mK q pts x k));rw[hL,qu,cH,iA hk];rfl
     rw[aX,this];rfl
    have hat:Ia (num m) q pts k9 x=kS (num m) 1 ((k9.zip L).take n):=by
     rw[bM (by omega),wR _ _ m1,ko]
     unfold Ia;rw[←hn,←hL];exact(dt _ _).symm
    have hgpA: ∀k,GP m o (kS (num m) 1 ((k9.zip L).take k)):=fun k=>Ch m1 _ _ (GP.one m1) fun p hp=>by
     obtain⟨a,b⟩:=p;exact he _ (List.of_mem_zip (iW hp)).1
    have hA1: ∀k,k<n→kS (num m) 1 ((k9.zip L).take (k+1))=kS (num m) 1 ((k9.zip L).take k)*cL (num m) (k9.getD k 0) false (mK q pts x k)%num m:=fun k hk=>by
     rw[dN (0,(false,[])) (show k<(k9.zip L).length by omega),zg k hk,wS,aK]
    have hA0:kS (num m) 1 ((k9.zip L).take 0)=1:=by rw[List.take_zero];rfl
    obtain⟨A,hA⟩: ∃A:Nat→Nat,∀k,A k=kS (num m) 1 ((k9.zip L).take k):=⟨_,fun _=>rfl⟩
    simp only[←hA]at hat hgpA hA1 hA0;rw[hat];clear hA zg;refine aj (α:=Nat) (fun k=>n-k) (fun k=>⟨[(10, .v (.sl (pts.map cA))),(1, .v (.sl (pts.map uP))),(2, .v (.sl (k9.map cA))),(3, .v (E x)),(4, .p 1000 0 0),(9, .v (.s o)),(12, .v (N (A k))),(13,E' k)],[(1000,⟨0,[.v (.s name), .v (.s m), .v (.s o), .v (.s g), .v (.s y), .v (E need), .v (.sl (sh.map .s))],false,none⟩)],1031⟩) (fun k=>k≤n) 0 (fun _=>bQ rfl) (aL _) ?_ ?_
    ·simp only[hA0];refine AS.Le.Kg [(10, .sl (pts.map cA))] [1021] (fun m hm=>by rw[cO.1 hm];exact⟨by decide,rfl⟩) (by intro p hp;rw[cO.1 hp];simp[aF,ar,view,aN,g1,g2,g3,g4,cF,fD]) (by first|decide|omega) ?_ ?_
     all_goals simp[cl,cj,aF,ar,AV.bd,AV.bd.bdL]
    ·intro k hk R hR
     by_cases hkn:k<n
     ·have hgo:=hR (k+1) (by omega) (by omega)
      have e5:=mZ k9 (i:=k) (by omega)
      have hi2:=hI2 k;have hll:=hlL k;have gk:=he _ (ay 0 (show k<k9.length by omega))
      have hw:=hpw _ gk (aP (mK q pts x k)) (vN (by omega))
      rw[aK]at hw;have gA:=hgpA k;have hml:=HF lm lo hE gA (gk.cL m1 false (mK q pts x k));rw[hA1 k hkn]at hgo;generalize k9.getD k 0=ek at*;generalize mK q pts x k=lk at*;generalize A k=ak at*;generalize cL (num m) ek false lk=pk at*;generalize ak*pk%num m=a2 at*;have u0:(az (List.replicate n 0)).length=n:=by rw[aS];simp
      have u1:List.take k (az (List.replicate n 0))++[AV.v (N 1)]++List.drop (k+1) (az (List.replicate n 0))=az (uv n k):=dc (x:=1) (by simpa using hkn)
      have ul:(uv n k).length=n:=by simp[uv]
      have x1:=cu ul;have x2:=dK (uv n k);have x3:=cK ul;have x4:(az (uv n k)).length=n:=by rw[aS,ul]
      clear hR hI2 hlL hpw hgpA hA1 hat;repeat' first|simp only[go_sem,seval,lP,lEl,e5,fb,u0,u1,hwx trivial]|refine cP o1 ?_|refine cP ox ?_|(refine mS [1037] hi2 rfl (by simp[aN,ar,x1,x2,x3,x4,fD]) (by simp[aQ,view,ar,x1,x2,x3,x4,cF]) ?_)|refine cP hw ?_|refine cP hml ?_|refine sB ?_|(first|apply pX|apply bX)<;>intro hc|refine⟨oD,?_⟩|exact oD|fail
      refine hgo _ ?_;exact lE
     ·obtain rfl:k=n:=by omega
      clear hR hI2 hlL hpw hgpA hA1 hat;repeat' first|simp only[go_sem,seval,lP]|refine sB ?_|(first|apply pX|apply bX)<;>intro hc|refine⟨oD,?_⟩|exact oD|fail
      all_goals rfl
end Go.Proofs.YtmobkhegihemeaaGreatDoor
