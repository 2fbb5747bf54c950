/-
  Part of the proof, part FA40. Own work.
-/
import Derived.Test.YtfdjchnefpefbaaGreatDoorFA39
set_option linter.all false
namespace Go.Proofs.YtfdjchnefpefbaaGreatDoor
open Go Go.Dom Go.Num
set_option maxRecDepth 100000
set_option maxHeartbeats 16000000
theorem cv {l:List Nat} {n:Nat} (h:l.length=n):List.take n (aC l)=aC l:=cd (by rw[bE];omega)
theorem eR (l:List Nat):(aC l).all AV.one=true:=by simp[aC,AV.one,PV.one]
theorem cQ (hf:Nat->Option au) (k:Nat) (l:List Nat):aQ (view hf (k+1)) (aC l)=some (l.map cY):=by
 have:=eJ hf k (l.map cY)
 rwa[iQ]at this
theorem dy {l:List Nat} {n:Nat} (h:l.length=n):chunk 1 n (l.map cY)=l.map cY:=by
 have:=qo (l.map cY)
 rwa[aE,h]at this
theorem uj (l:List Int) (i:Nat) (x:Int):(tN l).set i x.toNat=tN (l.set i x):=by simp[tN,sr]
theorem GQ (p:List Int) {i:Nat} (h:i<p.length):((tN p).map cY).getD i .fn0=N (p.getD i 0).toNat:=by
 rw[qv _ (by rw[mP];exact h),mq]
theorem og {q x:Int} (h:0<=x/\x<q): ∃n:Nat,x=n:=⟨x.toNat,(gV h.1).symm⟩
abbrev oR (e:Option TypeId) (x:AV):au:=⟨0,[x],false,e⟩
abbrev tI:Option TypeId:=some 3
abbrev tL:Option TypeId:=some 27
abbrev tA:Option TypeId:=some 22
theorem QO (nm:Nat) {q:Nat} (hq:q<18446744073709551616) (h1:1<q) {xs:List Nat} (hx: ∀a∈xs,a<18446744073709551616) {i:Nat} (hi:i<xs.length) (hxl:xs.length<1000000) {a:Nat} (ha:a<18446744073709551616) {p:List Int} (hp:p≠[]) (hin:NT q p) (hpl:p.length<1000000) {s:Nat} (hs:s<q):
  iB Tryz.prog 352 nm [(1017,oR tL (.v (.sl ((tN p).map cY)))),(1000,oR none (.v (N q))),(1001,oR none (.v (.sl (xs.map cY)))),(1012,oR tI (.v (E i))),(1018,oR tA (.v (N s)))] [.v (N a), .p 1017 0 0, .p 1000 0 0, .p 1001 0 0, .p 1012 0 0, .p 1018 0 0] (.tup []) [(1017,some (oR tL (.v (.sl ((tN (mL q p a)).map cY))))),(1018,some (oR tA (.v (N (s*((((xs.getD i 0:Nat):Int)-a)%q).toNat%q)))))]:=by
 have q0:0<q:=by omega
 obtain⟨n,hn⟩: ∃n,n=p.length:=⟨_,rfl⟩;have lP:(tN p).length=n:=by rw[mP,hn]
 have ht: ∀ _:True,((n:Int)+1).toNat=n+1:=fun _=>by omega
 have r0:tN (iK q p a 0)=List.replicate (n+1) 0:=by rw[MQ,hn];simp[tN]
 have rE:iK q p a n=mL q p a:=by rw[hn];exact DT hp hin
 have rL: ∀j,j<=n->(tN (iK q p a j)).length=n+1:=fun j hj=>by rw[mP,DU oO,hn]
 have rS: ∀j,j<n->((tN (iK q p a j)).set (j+1) (p.getD j 0).toNat).set j ((mL q p a).getD j 0).toNat=tN (iK q p a (j+1)):=fun j hj=>by
  rw[uj,uj,Ak oO]
 have rN: ∀j,j<n->(tN (iK q p a j)).getD (j+1) 0=0:=fun j hj=>by rw[mq,Aj oO];rfl
 have rA: ∀j,j<=n->(tN (iK q p a j)).getD j 0=((0::p).getD j 0).toNat:=fun j hj=>by rw[mq,Hv oO]
 have rM:=fun j=>L3 q a p j
 have e3:=qv xs hi;have xi:=hx _ (az 0 hi);have d1:=G6 (a:=xs.getD i 0) (b:=a) (m:=q) xi ha hq q0;have hdl:(((xs.getD i 0:Nat):Int)-a)%q<q:=gZ _ oO;have hd0:0<=(((xs.getD i 0:Nat):Int)-a)%q:=fS _ oO;generalize (((xs.getD i 0:Nat):Int)-a)%q=dz at*;obtain⟨dn,rfl⟩: ∃d:Nat,dz=d:=⟨dz.toNat,by omega⟩
 rw[Int.toNat_natCast]at d1⊢;have d2:=oJ (a:=s) (b:=dn) (m:=q) oO oO hq q0;have lE:(tN (mL q p a)).length=n+1:=by rw[<-rE];exact rL n (an _)
 have k1:=cv lE;have k2:=eR (tN (mL q p a));have k3:=dy lE;have k4:(aC (tN (mL q p a))).length=n+1:=by rw[bE,lE]
 generalize xs.getD i 0=xv at*;refine iB.w mixed Tryz.call352 Tryz.func352 rfl (je.1 _ _ _ (by cbv)) (je.2 _ _ (by cbv)) (obs:=[oR tL (.v (.sl ((tN p).map cY))),oR none (.v (N q)),oR none (.v (.sl (xs.map cY))),oR tI (.v (E i)),oR tA (.v (N s))]) (args:=[.v (N a), .p 0 0 0, .p 1 0 0, .p 2 0 0, .p 3 0 0, .p 4 0 0]) (fs:=[some (some (oR tL (.v (.sl ((tN (mL q p a)).map cY))))),none,none,none,some (some (oR tA (.v (N (s*dn%q)))))]) (j:=none) (nw:=none) (v:= .tup []) (ns:=[1017,1000,1001,1012,1018]) (obsA:=[oR tL (.v (.sl ((tN p).map cY))),oR none (.v (N q)),oR none (.v (.sl (xs.map cY))),oR tI (.v (E i)),oR tA (.v (N s))]) rfl ?_ (by simp) (by simp) rfl (by simp[aQ,au.aF,AV.aF,AV.aF.renL]) (by simp[aQ,AV.aF,cq]) (by simp[AV.aF,AV.aF.renL]) (by simp[eK,outs,au.aF,AV.aF,AV.aF.renL])
 simp only[go_sem,seval];repeat' first|simp only[go_sem,seval,lP,ht trivial,jD]|refine sB ?_|apply xX<;>intro hc|refine⟨oD,?_⟩|exact oD|fail
 refine af (α:=Nat) (fun j=>n-j) (fun j=>⟨[(0, .v (N a)),(1, .p 0 0 0),(2, .p 1 0 0),(3, .p 2 0 0),(4, .p 3 0 0),(5, .p 4 0 0),(7, .rs 1003 0 0 (n+1) 1),(18, .v (.sl ((tN p).map cY))),(19,E' n),(20,E' j)],[(0,oR tL (.v (.sl ((tN p).map cY)))),(1,oR none (.v (N q))),(2,oR none (.v (.sl (xs.map cY)))),(3,oR tI (.v (E i))),(4,oR tA (.v (N s))),(1003,⟨0,aC (tN (iK q p a j)),false,none⟩)],_⟩) (fun j=>j<=n) 0 (fun _=>an _) (aH _) ?_ ?_
 ·rw[r0];refine lG ?_;all_goals exact fun c hc=>eN hc
 ·intro j hj R hR
  by_cases hlt:j<n
  ·have hgo:=hR (j+1) oO oO;have e1:=GQ p (i:=j) oO;have hrm:=rM j;have hrn:=rN j hlt;have hra:=rA j oO;have hrs:=rS j hlt;have hrl:=rL j oO;rw[<-hrs,hrm]at hgo;obtain⟨c,hc⟩:=og (hin j);have hcq:=(hin j).2;obtain⟨v,hv⟩:=og (x:=(0::p).getD j 0) (q:=q) (by
    cases j with
    |zero=>exact⟨mC _,by simp;omega⟩
    |succ j=>exact hin j)
   have hvq:v<q:=by
    have:(0::p).getD j 0<(q:Int):=by
     cases j with
     |zero=>simp;omega
     |succ j=>exact(hin j).2
    omega
   rw[hc]at hcq e1 hgo;rw[hv]at hra hgo;rw[Int.toNat_natCast]at e1 hra hgo;have m1:=zT (a:=0) (b:=c) (m:=q) oC oO hq q0;rw[dI,aV oO]at m1;have m2:=oJ (a:=c) (b:=a) (m:=q) oO ha hq q0;have m3:=G6 (a:=v) (b:=c*a%q) (m:=q) oO (by have:=aD (c*a) q0;omega) hq q0
   rw[show(((c*a%q:Nat):Int))=(c:Int)*a%q by push_cast;rfl]at m3
   generalize (((v:Int)-(c:Int)*a%q)%q).toNat=z at*;have ht1: ∀ _:True,((j:Int)+1).toNat=j+1:=fun _=>by omega
   generalize tN (iK q p a j)=R0 at*;have g0:(aC R0).length=n+1:=by rw[bE,hrl]
   have g1:(aC R0).getD (j+1) .u= .v (N 0):=by rw[iF oO,hrn]
   have g2:List.take (j+1) (aC R0)++[AV.v (.s (aO c))]++List.drop (j+1+1) (aC R0)=aC (R0.set (j+1) c):=fH oO;have g3:(aC (R0.set (j+1) c)).getD j .u= .v (N v):=by
    rw[iF (by rw[fU];omega),<-hra]
    simp[aR,pF]
   have g4:(aC (R0.set (j+1) c)).length=n+1:=by rw[bE,fU,hrl]
   have g5:List.take j (aC (R0.set (j+1) c))++[AV.v (.s (aO z))]++List.drop (j+1) (aC (R0.set (j+1) c))=aC ((R0.set (j+1) c).set j z):=fH (by rw[fU];omega)
   clear hR rM rN rA rS rL d1 d2 k1 k2 k3 k4 r0 rE hin;refine JK (aN @lP (aN @e1 (aN (ht1 trivial) (aN @g0 (aN @g1 (aN @g2 (aN @g3 (aN @g4 @g5)))))))) @m1 @m2 @m3 ?_;refine hgo _ ?_;refine lG ?_;all_goals exact fun c hc=>eN hc
  ·obtain rfl:j=n:=by omega
   rw[rE];clear hR rM rN rA rS rL;repeat' first|simp only[go_sem,seval,true_or,or_true,false_or,or_false,ae,ga,dS,fL,fh,fj,dT,nu,oe,fB,fQ,cJ,aB,AV.aF,AV.aF.renL,ax,lP,e3,k1,k2,k3,k4,cQ]|refine cP d1 ?_|refine cP d2 ?_|refine sB ?_|apply xX<;>intro hc|refine⟨oD,?_⟩|exact oD|fail
   all_goals trivial
theorem QM (nm:Nat) {q:Nat} (hq:q<18446744073709551616) (h1:1<q) {xs:List Nat} (hx: ∀a∈xs,a<18446744073709551616) {i:Nat} (hi:i<xs.length) (hxl:xs.length<1000000) {a:Nat} (ha:a<18446744073709551616) {p:List Int} (hp:p≠[]) (hin:NT q p) (hpl:p.length<1000000) {s:Nat} (hs:s<q):
  iB Tryz.prog 352 nm [(1017,oR tL (.fs ((tN p).map cY))),(1000,oR none (.v (N q))),(1001,oR none (.v (.sl (xs.map cY)))),(1012,oR tI (.v (E i))),(1018,oR tA (.v (N s)))] [.v (N a), .p 1017 0 0, .p 1000 0 0, .p 1001 0 0, .p 1012 0 0, .p 1018 0 0] (.tup []) [(1017,some (oR tL (.v (.sl ((tN (mL q p a)).map cY))))),(1018,some (oR tA (.v (N (s*((((xs.getD i 0:Nat):Int)-a)%q).toNat%q)))))]:=by
 have q0:0<q:=by omega
 obtain⟨n,hn⟩: ∃n,n=p.length:=⟨_,rfl⟩;have lP:(tN p).length=n:=by rw[mP,hn]
 have ht: ∀ _:True,((n:Int)+1).toNat=n+1:=fun _=>by omega
 have r0:tN (iK q p a 0)=List.replicate (n+1) 0:=by rw[MQ,hn];simp[tN]
 have rE:iK q p a n=mL q p a:=by rw[hn];exact DT hp hin
 have rL: ∀j,j<=n->(tN (iK q p a j)).length=n+1:=fun j hj=>by rw[mP,DU oO,hn]
 have rS: ∀j,j<n->((tN (iK q p a j)).set (j+1) (p.getD j 0).toNat).set j ((mL q p a).getD j 0).toNat=tN (iK q p a (j+1)):=fun j hj=>by
  rw[uj,uj,Ak oO]
 have rN: ∀j,j<n->(tN (iK q p a j)).getD (j+1) 0=0:=fun j hj=>by rw[mq,Aj oO];rfl
 have rA: ∀j,j<=n->(tN (iK q p a j)).getD j 0=((0::p).getD j 0).toNat:=fun j hj=>by rw[mq,Hv oO]
 have rM:=fun j=>L3 q a p j
 have e3:=qv xs hi;have xi:=hx _ (az 0 hi);have d1:=G6 (a:=xs.getD i 0) (b:=a) (m:=q) xi ha hq q0;have hdl:(((xs.getD i 0:Nat):Int)-a)%q<q:=gZ _ oO;have hd0:0<=(((xs.getD i 0:Nat):Int)-a)%q:=fS _ oO;generalize (((xs.getD i 0:Nat):Int)-a)%q=dz at*;obtain⟨dn,rfl⟩: ∃d:Nat,dz=d:=⟨dz.toNat,by omega⟩
 rw[Int.toNat_natCast]at d1⊢;have d2:=oJ (a:=s) (b:=dn) (m:=q) oO oO hq q0;have lE:(tN (mL q p a)).length=n+1:=by rw[<-rE];exact rL n (an _)
 have k1:=cv lE;have k2:=eR (tN (mL q p a));have k3:=dy lE;have k4:(aC (tN (mL q p a))).length=n+1:=by rw[bE,lE]
 generalize xs.getD i 0=xv at*;refine iB.w mixed Tryz.call352 Tryz.func352 rfl (je.1 _ _ _ (by cbv)) (je.2 _ _ (by cbv)) (obs:=[oR tL (.fs ((tN p).map cY)),oR none (.v (N q)),oR none (.v (.sl (xs.map cY))),oR tI (.v (E i)),oR tA (.v (N s))]) (args:=[.v (N a), .p 0 0 0, .p 1 0 0, .p 2 0 0, .p 3 0 0, .p 4 0 0]) (fs:=[some (some (oR tL (.v (.sl ((tN (mL q p a)).map cY))))),none,none,none,some (some (oR tA (.v (N (s*dn%q)))))]) (j:=none) (nw:=none) (v:= .tup []) (ns:=[1017,1000,1001,1012,1018]) (obsA:=[oR tL (.fs ((tN p).map cY)),oR none (.v (N q)),oR none (.v (.sl (xs.map cY))),oR tI (.v (E i)),oR tA (.v (N s))]) rfl ?_ (by simp) (by simp) rfl (by simp[aQ,au.aF,AV.aF,AV.aF.renL]) (by simp[aQ,AV.aF,cq]) (by simp[AV.aF,AV.aF.renL]) (by simp[eK,outs,au.aF,AV.aF,AV.aF.renL])
 simp only[go_sem,seval];repeat' first|simp only[go_sem,seval,lP,ht trivial,jD]|refine sB ?_|apply xX<;>intro hc|refine⟨oD,?_⟩|exact oD|fail
 refine af (α:=Nat) (fun j=>n-j) (fun j=>⟨[(0, .v (N a)),(1, .p 0 0 0),(2, .p 1 0 0),(3, .p 2 0 0),(4, .p 3 0 0),(5, .p 4 0 0),(7, .rs 1003 0 0 (n+1) 1),(18, .fs ((tN p).map cY)),(19,E' n),(20,E' j)],[(0,oR tL (.fs ((tN p).map cY))),(1,oR none (.v (N q))),(2,oR none (.v (.sl (xs.map cY)))),(3,oR tI (.v (E i))),(4,oR tA (.v (N s))),(1003,⟨0,aC (tN (iK q p a j)),false,none⟩)],_⟩) (fun j=>j<=n) 0 (fun _=>an _) (aH _) ?_ ?_
 ·rw[r0];refine lG ?_;all_goals exact fun c hc=>eN hc
 ·intro j hj R hR
  by_cases hlt:j<n
  ·have hgo:=hR (j+1) oO oO;have e1:=GQ p (i:=j) oO;have hrm:=rM j;have hrn:=rN j hlt;have hra:=rA j oO;have hrs:=rS j hlt;have hrl:=rL j oO;rw[<-hrs,hrm]at hgo;obtain⟨c,hc⟩:=og (hin j);have hcq:=(hin j).2;obtain⟨v,hv⟩:=og (x:=(0::p).getD j 0) (q:=q) (by
    cases j with
    |zero=>exact⟨mC _,by simp;omega⟩
    |succ j=>exact hin j)
   have hvq:v<q:=by
    have:(0::p).getD j 0<(q:Int):=by
     cases j with
     |zero=>simp;omega
     |succ j=>exact(hin j).2
    omega
   rw[hc]at hcq e1 hgo;rw[hv]at hra hgo;rw[Int.toNat_natCast]at e1 hra hgo;have m1:=zT (a:=0) (b:=c) (m:=q) oC oO hq q0;rw[dI,aV oO]at m1;have m2:=oJ (a:=c) (b:=a) (m:=q) oO ha hq q0;have m3:=G6 (a:=v) (b:=c*a%q) (m:=q) oO (by have:=aD (c*a) q0;omega) hq q0
   rw[show(((c*a%q:Nat):Int))=(c:Int)*a%q by push_cast;rfl]at m3
   generalize (((v:Int)-(c:Int)*a%q)%q).toNat=z at*;have ht1: ∀ _:True,((j:Int)+1).toNat=j+1:=fun _=>by omega
   generalize tN (iK q p a j)=R0 at*;have g0:(aC R0).length=n+1:=by rw[bE,hrl]
   have g1:(aC R0).getD (j+1) .u= .v (N 0):=by rw[iF oO,hrn]
   have g2:List.take (j+1) (aC R0)++[AV.v (.s (aO c))]++List.drop (j+1+1) (aC R0)=aC (R0.set (j+1) c):=fH oO;have g3:(aC (R0.set (j+1) c)).getD j .u= .v (N v):=by
    rw[iF (by rw[fU];omega),<-hra]
    simp[aR,pF]
   have g4:(aC (R0.set (j+1) c)).length=n+1:=by rw[bE,fU,hrl]
   have g5:List.take j (aC (R0.set (j+1) c))++[AV.v (.s (aO z))]++List.drop (j+1) (aC (R0.set (j+1) c))=aC ((R0.set (j+1) c).set j z):=fH (by rw[fU];omega)
   clear hR rM rN rA rS rL d1 d2 k1 k2 k3 k4 r0 rE hin;refine JK (aN @lP (aN @e1 (aN (ht1 trivial) (aN @g0 (aN @g1 (aN @g2 (aN @g3 (aN @g4 @g5)))))))) @m1 @m2 @m3 ?_;refine hgo _ ?_;refine lG ?_;all_goals exact fun c hc=>eN hc
  ·obtain rfl:j=n:=by omega
   rw[rE];clear hR rM rN rA rS rL;repeat' first|simp only[go_sem,seval,true_or,or_true,false_or,or_false,ae,ga,dS,fL,fh,fj,dT,nu,oe,fB,fQ,cJ,aB,AV.aF,AV.aF.renL,ax,lP,e3,k1,k2,k3,k4,cQ]|refine cP d1 ?_|refine cP d2 ?_|refine sB ?_|apply xX<;>intro hc|refine⟨oD,?_⟩|exact oD|fail
   all_goals trivial
noncomputable def fN (q:Nat) (xs ys:List Nat) (k:Nat):Int:=((ys.getD k 0*ew (yu q (xs.getD k 0:Nat) ((nI xs).eraseIdx k)).toNat q%q:Nat):Int)
noncomputable def uX (q:Nat) (xs ys:List Nat):List Nat:=tN (qJ q (nI xs) (fN q xs ys))
theorem We:(tN [1]).map cY=[PV.s [1]]:=congrArg (fun b=>[PV.s b]) (by decide:aO 1=[1])
theorem Ef {q:Nat} (hq:q<18446744073709551616) (h1:1<q) {xs ys:List Nat} (hx: ∀a∈xs,a<18446744073709551616) (hy: ∀a∈ys,a<18446744073709551616) (hl:ys.length=xs.length) (hxl:xs.length<1000000) (hg: ∀i,i<xs.length->Nat.gcd (yu q (xs.getD i 0:Nat) ((nI xs).eraseIdx i)).toNat q=1):aA Tryz.prog 238 [N q, .sl (xs.map cY), .sl (ys.map cY)] (.sl ((uX q xs ys).map cY)):=by
 have q0:0<q:=by omega
 obtain⟨n,hn⟩: ∃n,n=xs.length:=⟨_,rfl⟩;have lX:xs.length=n:=hn.symm;have lY:ys.length=n:=by rw[hl,hn]
 have lI:(nI xs).length=n:=by rw[lr,hn]
 obtain⟨P,hP⟩: ∃P:Nat->List Int,P=fun k=>zW q ((nI xs).eraseIdx k):=⟨_,rfl⟩
 obtain⟨f,hf⟩: ∃f:Nat->Int,f=fN q xs ys:=⟨_,rfl⟩;have hT:uX q xs ys=tN (fY q P f n n 0):=by
  unfold uX;rw[<-lI,hP,Mj,hf]
 rw[hT];have r0:tN (fY q P f n 0 0)=List.replicate n 0:=by rw[Ud];simp[tN]
 have rl: ∀i,(tN (fY q P f n i 0)).length=n:=fun i=>by rw[mP,nc]
 clear hT;refine eW Tryz.call238 Tryz.func238 ?_;repeat' first|simp only[go_sem,seval,lX,jD]|refine sB ?_|apply xX<;>intro hc|refine⟨oD,?_⟩|exact oD|fail
 refine af (α:=Nat) (fun i=>n-i) (fun i=>⟨[(2, .v (.sl (ys.map cY))),(3, .p 1000 0 0),(4, .p 1001 0 0),(7, .rs 1005 0 0 n 1),(25, .v (.sl (xs.map cY))),(26,E' n),(27,E' i)],[(1000,oR none (.v (N q))),(1001,oR none (.v (.sl (xs.map cY)))),(1005,⟨0,aC (tN (fY q P f n i 0)),false,none⟩)],_⟩) (fun i=>i<=n) 0 (fun _=>an _) (aH _) ?_ ?_
 ·rw[r0];refine lG ?_;all_goals exact fun c hc=>eN hc
 ·intro i hi Ro hRo
  by_cases hlt:i<n
  ·have hi':i<xs.length:=by omega
   obtain⟨x,hxi⟩: ∃x:Nat,x=xs.getD i 0:=⟨_,rfl⟩;obtain⟨L,hL⟩: ∃L:List Int,L=nI xs:=⟨_,rfl⟩;have hgi:=hg i hi';rw[<-hL,<-hxi]at hgi;have hfi0:f i=((ys.getD i 0*ew (yu q x (L.eraseIdx i)).toNat q%q:Nat):Int):=by rw[hf,hL,hxi];rfl
   have hpi:P i=zW q (L.eraseIdx i):=by rw[hP,hL]
   repeat' first|simp only[go_sem,seval,lX]|refine cP qT ?_|refine sB ?_|apply xX<;>intro hc|refine⟨oD,?_⟩|exact oD|fail
   refine af (α:=Nat×Bool) (fun s=>n-s.1) (fun s=>match s with|(k,true)=>⟨[(2, .v (.sl (ys.map cY))),(3, .p 1000 0 0),(4, .p 1001 0 0),(7, .rs 1005 0 0 n 1),(25, .v (.sl (xs.map cY))),(26,E' n),(27,E' i),(8, .p 1012 0 0),(9, .p 1017 0 0),(10, .p 1018 0 0),(11, .fn (.func 352) [] [.p 1017 0 0, .p 1000 0 0, .p 1001 0 0, .p 1012 0 0, .p 1018 0 0]),(34, .v (.sl (xs.map cY))),(35,E' n),(36,E' k)],[(1000,oR none (.v (N q))),(1001,oR none (.v (.sl (xs.map cY)))),(1005,⟨0,aC (tN (fY q P f n i 0)),false,none⟩),(1012,oR tI (.v (E i))),(1017,oR tL (.v (.sl ((tN (zW q (uM L i k))).map cY)))),(1018,oR tA (.v (N (yu q x (uM L i k)).toNat)))],1026⟩|(k,false)=>⟨[(2, .v (.sl (ys.map cY))),(3, .p 1000 0 0),(4, .p 1001 0 0),(7, .rs 1005 0 0 n 1),(25, .v (.sl (xs.map cY))),(26,E' n),(27,E' i),(8, .p 1012 0 0),(9, .p 1017 0 0),(10, .p 1018 0 0),(11, .fn (.func 352) [] [.p 1017 0 0, .p 1000 0 0, .p 1001 0 0, .p 1012 0 0, .p 1018 0 0]),(34, .v (.sl (xs.map cY))),(35,E' n),(36,E' k)],[(1000,oR none (.v (N q))),(1001,oR none (.v (.sl (xs.map cY)))),(1005,⟨0,aC (tN (fY q P f n i 0)),false,none⟩),(1012,oR tI (.v (E i))),(1017,oR tL (.fs [.s [1]])),(1018,oR tA (.v (.s [1])))],1026⟩) (fun s=>s.1<=n/\(s.2=false->uM L i s.1=[])) (0,false) (fun s=>by obtain⟨k,b⟩:=s;cases b<;>exact cC rfl) ⟨aH _,fun _=>VT _ _⟩ ?_ ?_
   ·refine lG ?_;all_goals exact fun c hc=>eN hc
   ·rintro⟨k,b⟩ ⟨hk,hb⟩ R hR;simp only at hk hb
    by_cases hkn:k<n
    ·by_cases hki:k=i
     ·have hex:uM L i (k+1)=uM L i k:=by rw[hki];exact Tg (by rw[hL];omega)
      have hgo:=hR (k+1,b) ⟨by show k+1<=n;omega,fun h=>by show uM L i (k+1)=[];rw[hex];exact hb h⟩ (by show n-(k+1)<n-k;omega)
      have e2:=qv xs (i:=k) oO;clear hR hRo hg
      cases b<;>simp only[hex]at hgo<;>clear hb hex hgi hfi0 hpi
      ·refine fx (aN @lX @e2) ?_;refine hgo _ ?_;refine lG ?_;all_goals exact fun c hc=>eN hc
      ·refine fx (aN @lX @e2) ?_;refine hgo _ ?_;refine lG ?_;all_goals exact fun c hc=>eN hc
     ·have hex:uM L i (k+1)=uM L i k++[((xs.getD k 0:Nat):Int)]:=by rw[Th (by rw[hL];omega) hki,hL,pw]
      have hgo:=hR (k+1,true) ⟨by show k+1<=n;omega,fun h=>by cases h⟩ (by show n-(k+1)<n-k;omega)
      simp only[hex,L1,Nc]at hgo;have e2:=qv xs (i:=k) oO;have xk:=hx _ (az 0 (show k<xs.length by omega))
      have hnki: ¬((k:Int)=(i:Int)):=by omega
      clear hR hRo hg hgi hfi0 hpi;cases b
      ·have he:=hb rfl;rw[he]at hgo;have hc:=fun nm=>QM nm hq h1 hx hi' hxl xk (p:=[1]) (by simp) (Mi oO) oC (s:=1) h1
       rw[We,<-hxi]at hc;rw[show N 1= .s [1]from congrArg PV.s (by decide:aO 1=[1])]at hc
       have hs1:(yu q x []*((((x:Nat):Int)-(xs.getD k 0:Nat))%q)%q).toNat=1*((((x:Nat):Int)-(xs.getD k 0:Nat))%q).toNat%q:=by
        obtain⟨d,hd⟩:=og (q:=(q:Int)) ⟨fS (((x:Nat):Int)-(xs.getD k 0:Nat)) oO,gZ _ oO⟩;rw[hd,Int.toNat_natCast,show yu q x []=((1:Nat):Int)from rfl,<-Int.natCast_mul,<-Int.natCast_emod,Int.toNat_natCast]
       rw[hs1,show zW q []=[1]from rfl]at hgo
       generalize xs.getD k 0=y at*;generalize 1*((((x:Nat):Int)-y)%q).toNat%q=s2 at*;generalize mL q [1] y=p2 at*;clear hb he;repeat' first|simp only[go_sem,seval,lX,e2]|(refine bC (hc _) (by simp[aj]) ?_)|refine sB ?_|apply xX<;>intro hc|refine⟨oD,?_⟩|exact oD|fail
       refine hgo _ ?_;refine lG ?_;all_goals exact fun c hc=>eN hc
      ·have hsi:=yv (q:=(q:Int)) oO x (uM L i k);obtain⟨s0,hs0⟩:=og hsi;have hc:=fun nm=>QO nm hq h1 hx hi' hxl xk (p:=zW q (uM L i k)) (by intro h;have:=vu q (uM L i k);rw[h]at this;simp at this) (L0 oO _) (by rw[vu];unfold uM;have:=List.length_eraseIdx_le (L.take k) i;have:=List.length_take_le k L;omega) (s:=s0) oO
       rw[<-hxi]at hc;have hs1:(yu q x (uM L i k)*((((x:Nat):Int)-(xs.getD k 0:Nat))%q)%q).toNat=s0*((((x:Nat):Int)-(xs.getD k 0:Nat))%q).toNat%q:=by
        obtain⟨d,hd⟩:=og (q:=(q:Int)) ⟨fS (((x:Nat):Int)-(xs.getD k 0:Nat)) oO,gZ _ oO⟩;rw[hs0,hd,Int.toNat_natCast,<-Int.natCast_mul,<-Int.natCast_emod,Int.toNat_natCast]
       rw[hs1]at hgo;simp only[hs0,Int.toNat_natCast];generalize xs.getD k 0=y at*;generalize s0*((((x:Nat):Int)-y)%q).toNat%q=s2 at*;generalize zW q (uM L i k)=p1 at*;generalize mL q p1 y=p2 at*;clear hb hsi hs0 hs1 hex;repeat' first|simp only[go_sem,seval,lX,e2]|(refine bC (hc _) (by simp[aj]) ?_)|refine sB ?_|apply xX<;>intro hc|refine⟨oD,?_⟩|exact oD|fail
       refine hgo _ ?_;refine lG ?_;all_goals exact fun c hc=>eN hc
    ·obtain rfl:n=k:=by omega
     have hend:uM L i n=L.eraseIdx i:=by have:=Pd L i;rwa[show L.length=n by rw[hL];exact lI]at this
     rw[hend]at hb;have e4:=qv ys (i:=i) oO;have yi:=hy _ (az 0 (show i<ys.length by omega))
     generalize ys.getD i 0=y at*;obtain⟨p,hpd⟩: ∃p,p=zW q (L.eraseIdx i):=⟨_,rfl⟩;have hpp:p=P i:=by rw[hpd,hpi]
     have hin:NT q p:=by rw[hpd];exact L0 oO _
     have hpl:p.length=n:=by rw[hpd,vu,Ch,if_pos (by rw[hL];omega),hL,lI];omega
     have lP:(tN p).length=n:=by rw[mP,hpl]
     obtain⟨s0,hs0⟩:=og (yv (q:=(q:Int)) oO x (L.eraseIdx i));have hsq:=(yv (q:=(q:Int)) oO x (L.eraseIdx i)).2;rw[hs0,Int.toNat_natCast]at hgi hfi0;rw[hs0]at hsq;have iv:=qh (a:=s0) (m:=q) oO hq q0 hgi;have ivl:ew s0 q<q:=(gF q0 hgi).inv.1;have m0:=oJ (a:=y) (b:=ew s0 q) (m:=q) yi oO hq q0;obtain⟨fi,hfi1⟩: ∃fi,fi=y*ew s0 q%q:=⟨_,rfl⟩;have hfiq:fi<q:=by rw[hfi1];exact aD _ q0
     rw[<-hfi1]at hfi0 m0;have hfi:f i=(fi:Int):=hfi0;have hgl:=hg;clear hR hg hfi0 hfi1;cases b
     ·have he:=hb rfl;rw[he]at hpd hs0;have hp1:p=[1]:=hpd;have hs1:s0=1:=by have:yu (q:Int) x []=1:=rfl;omega
      rw[hs1,show N 1= .s [1]from congrArg PV.s (by decide:aO 1=[1])]at iv
      rw[hs1]at m0;have hpq:([PV.s [1]]:List PV)=(tN p).map cY:=by rw[hp1,We]
      have l1:([PV.s [1]]:List PV).length=n:=by rw[hpq,aE];exact lP
      simp only[List.length_cons,List.length_nil]at l1;clear hpd hs0 hs1 hgi he hb;simp only[hpq];repeat' first|simp only[go_sem,seval,lX,lY,lP,e4]|refine cP iv ?_|refine cP m0 ?_|refine sB ?_|apply xX<;>intro hc|refine⟨oD,?_⟩|exact oD|fail
      refine af (α:=Nat) (fun j=>n-j) (fun j=>⟨[(2, .v (.sl (ys.map cY))),(3, .p 1000 0 0),(4, .p 1001 0 0),(7, .rs 1005 0 0 n 1),(25, .v (.sl (xs.map cY))),(26,E' n),(27,E' i),(16, .v (N fi)),(64, .fs ((tN p).map cY)),(65,E' n),(66,E' j)],[(1000,oR none (.v (N q))),(1001,oR none (.v (.sl (xs.map cY)))),(1005,⟨0,aC (tN (fY q P f n i j)),false,none⟩)],1050⟩) (fun j=>j<=n) 0 (fun _=>cC rfl) (aH _) ?_ ?_
      ·refine lG ?_;all_goals exact fun c hc=>eN hc
      ·intro j hj R hR
       by_cases hjn:j<n
       ·have hgo:=hR (j+1) oO oO;have e5:=GQ p (i:=j) oO;have ho1:(tN (fY q P f n i j)).getD j 0=(yZ q P f j i).toNat:=by rw[mq,Hd hjn]
        have ho2:(tN (fY q P f n i j)).set j (yZ q P f j (i+1)).toNat=tN (fY q P f n i (j+1)):=by rw[uj,Aa hjn]
        have hol:(tN (fY q P f n i j)).length=n:=by rw[mP,nc]
        rw[<-ho2]at hgo;obtain⟨a0,ha0⟩:=og (tc (q:=(q:Int)) oO P f j i);have ha0q:=(tc (q:=(q:Int)) oO P f j i).2;have hstep:yZ q P f j (i+1)=(yZ q P f j i+p.getD j 0*f i%q)%q:=by rw[hpp];rfl
        obtain⟨c,hc⟩:=og (hin j);have hcq:=(hin j).2;rw[hc]at hcq e5 hstep;rw[ha0]at ho1 ha0q hstep;rw[hfi,show((a0:Int)+(c:Int)*(fi:Int)%q)%q=(((a0+c*fi%q)%q:Nat):Int) by push_cast;rfl]at hstep
        rw[hstep]at hgo;rw[Int.toNat_natCast]at e5 ho1 hgo;have m1:=oJ (a:=c) (b:=fi) (m:=q) oO oO hq q0;have m2:=zT (a:=a0) (b:=c*fi%q) (m:=q) oO (by have:=aD (c*fi) q0;omega) hq q0
        generalize (a0+c*fi%q)%q=z at*;generalize tN (fY q P f n i j)=R0 at*;have g0:(aC R0).length=n:=by rw[bE,hol]
        have g1:(aC R0).getD j .u= .v (N a0):=by rw[iF oO,ho1]
        have g2:List.take j (aC R0)++[AV.v (.s (aO z))]++List.drop (j+1) (aC R0)=aC (R0.set j z):=fH oO;clear hR hRo hgl hstep ho2;refine sT (aN @lX (aN @lP (aN @e5 (aN @g0 (aN @g1 @g2))))) @m1 @m2 ?_;refine hgo _ ?_;refine lG ?_;all_goals exact fun c hc=>eN hc
       ·obtain rfl:j=n:=by omega
        rw[zZ];have hgo:=hRo (i+1) oO oO;clear hR hRo;refine fx (aN @lX @lP) ?_;refine hgo _ ?_;refine lG ?_;all_goals exact fun c hc=>eN hc
     ·simp only[hend,<-hpd,hs0,Int.toNat_natCast];clear hpd hs0 hgi hb;repeat' first|simp only[go_sem,seval,lX,lY,lP,e4]|refine cP iv ?_|refine cP m0 ?_|refine sB ?_|apply xX<;>intro hc|refine⟨oD,?_⟩|exact oD|fail
      refine af (α:=Nat) (fun j=>n-j) (fun j=>⟨[(2, .v (.sl (ys.map cY))),(3, .p 1000 0 0),(4, .p 1001 0 0),(7, .rs 1005 0 0 n 1),(25, .v (.sl (xs.map cY))),(26,E' n),(27,E' i),(16, .v (N fi)),(64, .v (.sl ((tN p).map cY))),(65,E' n),(66,E' j)],[(1000,oR none (.v (N q))),(1001,oR none (.v (.sl (xs.map cY)))),(1005,⟨0,aC (tN (fY q P f n i j)),false,none⟩)],1050⟩) (fun j=>j<=n) 0 (fun _=>cC rfl) (aH _) ?_ ?_
      ·refine lG ?_;all_goals exact fun c hc=>eN hc
      ·intro j hj R hR
       by_cases hjn:j<n
       ·have hgo:=hR (j+1) oO oO;have e5:=GQ p (i:=j) oO;have ho1:(tN (fY q P f n i j)).getD j 0=(yZ q P f j i).toNat:=by rw[mq,Hd hjn]
        have ho2:(tN (fY q P f n i j)).set j (yZ q P f j (i+1)).toNat=tN (fY q P f n i (j+1)):=by rw[uj,Aa hjn]
        have hol:(tN (fY q P f n i j)).length=n:=by rw[mP,nc]
        rw[<-ho2]at hgo;obtain⟨a0,ha0⟩:=og (tc (q:=(q:Int)) oO P f j i);have ha0q:=(tc (q:=(q:Int)) oO P f j i).2;have hstep:yZ q P f j (i+1)=(yZ q P f j i+p.getD j 0*f i%q)%q:=by rw[hpp];rfl
        obtain⟨c,hc⟩:=og (hin j);have hcq:=(hin j).2;rw[hc]at hcq e5 hstep;rw[ha0]at ho1 ha0q hstep;rw[hfi,show((a0:Int)+(c:Int)*(fi:Int)%q)%q=(((a0+c*fi%q)%q:Nat):Int) by push_cast;rfl]at hstep
        rw[hstep]at hgo;rw[Int.toNat_natCast]at e5 ho1 hgo;have m1:=oJ (a:=c) (b:=fi) (m:=q) oO oO hq q0;have m2:=zT (a:=a0) (b:=c*fi%q) (m:=q) oO (by have:=aD (c*fi) q0;omega) hq q0
        generalize (a0+c*fi%q)%q=z at*;generalize tN (fY q P f n i j)=R0 at*;have g0:(aC R0).length=n:=by rw[bE,hol]
        have g1:(aC R0).getD j .u= .v (N a0):=by rw[iF oO,ho1]
        have g2:List.take j (aC R0)++[AV.v (.s (aO z))]++List.drop (j+1) (aC R0)=aC (R0.set j z):=fH oO;clear hR hRo hgl hstep ho2;refine sT (aN @lX (aN @lP (aN @e5 (aN @g0 (aN @g1 @g2))))) @m1 @m2 ?_;refine hgo _ ?_;refine lG ?_;all_goals exact fun c hc=>eN hc
       ·obtain rfl:j=n:=by omega
        rw[zZ];have hgo:=hRo (i+1) oO oO;clear hR hRo;refine fx (aN @lX @lP) ?_;refine hgo _ ?_;refine lG ?_;all_goals exact fun c hc=>eN hc
  ·obtain rfl:i=n:=by omega
   have k1:=cv (rl i);have k2:=eR (tN (fY q P f i i 0));have k3:=dy (rl i);have k4:(aC (tN (fY q P f i i 0))).length=i:=by rw[bE,rl]
   clear hRo;repeat' first|simp only[go_sem,seval,lX,k1,k2,k3,k4,cQ]|refine sB ?_|apply xX<;>intro hc|refine⟨oD,?_⟩|exact oD|fail
   all_goals trivial
noncomputable def IE (q:Nat) (xs ys:List Nat) (x:Nat):Nat:=(pT q (nI (uX q xs ys)) x).toNat
theorem Bh {q:Nat} (h:du q=true):2<=q:=(nJ h).1
theorem QL {q:Nat} (h0:0<q) (xs ys:List Nat): ∀c∈uX q xs ys,c<q:=by
 intro c hc;unfold uX at hc;obtain⟨z,hz,rfl⟩:=bw.1 hc;unfold qJ at hz;obtain⟨j,-,rfl⟩:=bw.1 hz;have:=tc (q:=(q:Int)) oO (fun k=>zW q ((nI xs).eraseIdx k)) (fN q xs ys) j (nI xs).length
 omega
theorem Nv (q:Nat) (xs ys:List Nat):(uX q xs ys).length=xs.length:=by rw[uX,mP,qJ,aE,iN,lr]
theorem FN {q:Nat} (hq:q<18446744073709551616) (hp:du q=true) {xs ys:List Nat} {x:Nat} (hl:ys.length=xs.length) (h256:xs.length<=256) (hx: ∀a∈xs,a<q) (hy: ∀a∈ys,a<q) (ha:x<q) (hd:xs.Nodup) (hg: ∀i,i<xs.length->Nat.gcd (yu q (xs.getD i 0:Nat) ((nI xs).eraseIdx i)).toNat q=1):
  aA Tryz.prog 128 [N q, .sl (xs.map cY), .sl (ys.map cY),N x] (.tup [N (IE q xs ys x),E 0]):=by
 have h2:=Bh hp;have h1:=FQ hq hp hl h256 hx hy ha hd;have h3:=Ef hq oO (fun a h=>by have:=hx a h;omega) (fun a h=>by have:=hy a h;omega) hl oO hg
 have h4:=Ar hq oO (cs:=uX q xs ys) (fun c hc=>by have:=QL oO xs ys c hc;omega) (x:=x) oO (by rw[Nv];omega)
 unfold IE;refine eW Tryz.call128 Tryz.func128 ?_;exact z3 @h1 @h3 @h4
def gX (vs:List Bytes) (sd:Bytes) (n:Bytes):Nat->Nat->List Bytes->Except Int (List Bytes)
 |0,_,acc=> .ok acc
 |k+1,i,acc=>match fA vs sd i n with
  | .error e=> .error e
  | .ok x=>gX vs sd n k (i+1) (acc++[x])
def xM (vs:List Bytes) (sd:Bytes) (i:Nat):Except Int (List Bytes)->PV
 | .ok l=> .tup [.sl (l.map .s),T vs sd (i:Nat),E 0]
 | .error e=> .tup [.sl [],T [] [] 0,E e]
theorem rp {vs:List Bytes} {sd:Bytes} {i:Nat} {n:Bytes} {e:Int} (h:fA vs sd i n= .error e):e=2\/e=14:=mW h
theorem Dq {vs:List Bytes} {sd n:Bytes} (hv:vs.all aa=true) (hn:aa n=true) (hl:vs.length<1000000): ∀{k i:Nat} {acc l:List Bytes},i<=2147483647->(∀x∈acc,aa x=true/\num x<num n)->gX vs sd n k i acc= .ok l->l.length=acc.length+k/\(∀x∈l,aa x=true/\num x<num n)/\i+k<=2147483647
 |0,i,acc,l,hi,ha,h=>by
  injection h with h;subst h;exact⟨rfl,ha,hi⟩
 |k+1,i,acc,l,hi,ha,h=>by
  rw[gX]at h
  split at h
  ·cases h
  ·rename_i x hx;obtain⟨d1,d2,d3⟩:=fK hv hn hl hi hx;obtain⟨a1,a2,a3⟩:=Dq hv hn hl d3 (acc:=acc++[x]) (fun y hy=>by
    rcases fJ.1 hy with hy|hy
    ·exact ha y hy
    ·rw[dr.1 hy];exact⟨d1,d2⟩) h
   exact⟨by rw[a1,bm];simp;omega,a2,by omega⟩
theorem Dp {vs:List Bytes} {sd:Bytes} {i:Nat} {n:Bytes} {k:Nat} (hv:vs.all aa=true) (hn:aa n=true) (h0:n≠[]) (hi:i<=2147483647) (hk:k<=4096) (hl:vs.length<1000000) (hsd:sd.length<1000000):aA Tryz.prog 69 [T vs sd i, .s n,E k] (xM vs sd (i+k) (gX vs sd n k i [])):=by
 have h1:=rU vs sd i n oO;rw[FG hv hn h0 hi]at h1;have hd:=fun(j:Nat) (hj:j<=2147483647)=>xg (sd:=sd) hv hn (xY hn h0) hj hl hsd
 obtain⟨R,hR0⟩: ∃R,R=gX vs sd n k i []:=⟨_,rfl⟩;rw[<-hR0]
 cases k with
 |zero=>
  rw[hR0];simp only[gX,xM];refine eW Tryz.call69 Tryz.func69 ?_;exact Xt @h1
 |succ k=>
  have d1:=hd i hi;rw[gX]at hR0;have hk4: ∀ _:True,decide ((4096:Int)<((k+1:Nat):Int))=false:=fun _=>decide_eq_false oO
  cases hx:fA vs sd i n with
  |error e=>
   rw[hx]at d1 hR0;simp only at hR0;rw[hR0];have he:=rp hx;simp only[ic,xM]at d1⊢;clear hR0 hd hx hv hn;refine eW Tryz.call69 Tryz.func69 ?_;refine Vf @h1 ?_;refine ah ?_;exact z1 @d1
  |ok x=>
   rw[hx]at d1 hR0;simp only at hR0;obtain⟨v1,v2,hi2⟩:=fK hv hn hl hi hx;simp only[ic]at d1;refine eW Tryz.call69 Tryz.func69 ?_;refine Vf @h1 ?_;refine ah ?_;refine Vf @d1 ?_;refine af (α:=Nat×List Bytes) (fun s=>k-s.1) (fun s=>⟨[(1, .v (.s n)),(3, .p 1000 0 0),(7, .p 1002 0 0),(10, .rs 1036 s.1 0 (s.1+1) 1),(28,E' (k+1)),(29,E' (s.1+1))],[(1000,⟨0,[.v (.sl (vs.map .s)), .v (.s sd), .v (.i .i64 ((i+(s.1+1):Nat):Int))],false,none⟩),(1002,⟨0,[.sn, .v (.s []), .v (.i .i64 0)],false,some 29⟩),(1036,⟨s.1,bO PV.s s.2,true,some 22⟩)],1042⟩) (fun s=>s.1<=k/\s.2.length=s.1+1/\i+(s.1+1)<=2147483647/\R=gX vs sd n (k-s.1) (i+(s.1+1)) s.2) (0,[x]) (fun _=>cC rfl) ⟨aH _,rfl,hi2,hR0⟩ ?_ ?_
   ·show AS.Le _ _;simp only[bO,dQ,CA,PV.cells,jQ,aS,bH];exact lE
   ·rintro⟨j,acc⟩ ⟨hj,hal,hij,hRj⟩ Q hQ;simp only at hj hal hij hRj;have q1:=de dV.s acc;have q2:=dK dV.s acc;rw[hal,dG]at q1 q2;have dj:=hd (i+(j+1)) hij
    by_cases hlt:j<k
    ·rw[show k-j=(k-(j+1))+1 by omega,gX]at hRj
     cases hy:fA vs sd (i+(j+1)) n with
     |error e=>
      rw[hy]at dj hRj;simp only at hRj;rw[hRj];have he:=rp hy;simp only[ic,xM]at dj⊢;clear hRj hQ hd hy hx hv hn hR0 d1;exact z1 @dj
     |ok y=>
      rw[hy]at dj hRj;simp only at hRj;obtain⟨w1,w2,w3⟩:=fK hv hn hl hij hy;have hgo:=hQ (j+1,acc++[y]) ⟨by show j+1<=k;omega,by simp[hal],by show i+(j+1+1)<= _;omega,by show R=gX vs sd n (k-(j+1)) (i+(j+1+1)) (acc++[y]);rw[hRj];rfl⟩ (by show k-(j+1)<k-j;omega)
      simp only[dh]at hgo;simp only[ic]at dj;clear hRj hQ hd hy hx hv hn hR0 d1;refine o8 (aN @q1 @q2) @dj ?_;refine hgo _ ?_;refine lG ?_;all_goals exact⟨by omega,rfl,fun c hc=>by
       rcases hc with hc|⟨a,ha,rfl⟩
       ·exact eu hc
       ·simp[PV.cells]at ha;subst ha;rfl⟩
    ·obtain rfl:j=k:=by omega
     rw[eE,gX]at hRj;rw[hRj];simp only[xM];have q3:=fk dV.s acc;have q4:chunk 1 (j+1) (acc.flatMap fun x=>[PV.s x])=acc.map .s:=by rw[<-hal];exact dA dV.s acc
     clear hRj hQ hd hx hv hn hR0 d1;repeat' first|simp only[go_sem,seval,q1,q2,q3,q4,e9]|refine sB ?_|apply xX<;>intro hc|refine⟨oD,?_⟩|exact oD|fail
     all_goals rfl
theorem tJ {vs:List Bytes} {sd n:Bytes} {e:Int}: ∀{k i:Nat} {acc:List Bytes},gX vs sd n k i acc= .error e->e=2\/e=14
 |0,i,acc,h=>by cases h
 |k+1,i,acc,h=>by
  rw[gX]at h
  split at h
  ·rename_i e' he;injection h with h;subst h
   exact rp he
  ·exact tJ h
end Go.Proofs.YtfdjchnefpefbaaGreatDoor
