/-
  Part of the proof, part KC37. Own work.
-/
import Derived.Test.YtmobkhegihemeaaGreatDoorKC36
set_option linter.all false
namespace Go.Proofs.YtmobkhegihemeaaGreatDoor
open Go Go.Dom Go.Num
set_option maxRecDepth 100000
set_option maxHeartbeats 16000000
theorem cu {l:List Nat} {n:Nat} (h:l.length=n):List.take n (az l)=az l:=bM (by rw[aS];omega)
theorem dK (l:List Nat):(az l).all AV.one=true:=by simp[az,AV.one,PV.one]
theorem cF (hf:Nat→Option ax) (k:Nat) (l:List Nat):aQ (view hf (k+1)) (az l)=some (l.map cA):=by
 have:=eF hf k (l.map cA)
 rwa[jE]at this
theorem cK {l:List Nat} {n:Nat} (h:l.length=n):chunk 1 n (l.map cA)=l.map cA:=by
 have:=mU (l.map cA)
 rwa[aH,h]at this
theorem nk (l:List Int) (i:Nat) (x:Int):(tN l).set i x.toNat=tN (l.set i x):=by simp[tN,qV]
theorem yr (p:List Int) {i:Nat} (h:i<p.length):((tN p).map cA).getD i .fn0=N (p.getD i 0).toNat:=by
 rw[mZ _ (by rw[ix];exact h),iQ]
theorem iO {q x:Int} (h:0≤x∧x<q): ∃n:Nat,x=n:=⟨x.toNat,(jP h.1).symm⟩
abbrev oR (e:Option TypeId) (x:AV):ax:=⟨0,[x],false,e⟩
abbrev tI:Option TypeId:=some 3
abbrev tL:Option TypeId:=some 27
abbrev tA:Option TypeId:=some 22
theorem OJ (nm:Nat) {q:Nat} (hq:q<18446744073709551616) (h1:1<q) {xs:List Nat} (hx: ∀a∈xs,a<18446744073709551616) {i:Nat} (hi:i<xs.length) (hxl:xs.length<1000000) {a:Nat} (ha:a<18446744073709551616) {p:List Int} (hp:p≠[]) (hin:Ih q p) (hpl:p.length<1000000) {s:Nat} (hs:s<q):
  ik Tryz.prog 218 nm [(1017,oR tL (.v (.sl ((tN p).map cA)))),(1000,oR none (.v (N q))),(1001,oR none (.v (.sl (xs.map cA)))),(1012,oR tI (.v (E i))),(1018,oR tA (.v (N s)))] [.v (N a), .p 1017 0 0, .p 1000 0 0, .p 1001 0 0, .p 1012 0 0, .p 1018 0 0] (.tup []) [(1017,some (oR tL (.v (.sl ((tN (kd q p a)).map cA))))),(1018,some (oR tA (.v (N (s*((((xs.getD i 0:Nat):Int)-a)%q).toNat%q)))))]:=by
 have q0:0<q:=by omega
 obtain⟨n,hn⟩: ∃n,n=p.length:=⟨_,rfl⟩;have lP:(tN p).length=n:=by rw[ix,hn]
 have ht: ∀ _:True,((n:Int)+1).toNat=n+1:=fun _=>by omega
 have r0:tN (iu q p a 0)=List.replicate (n+1) 0:=by rw[KY,hn];simp[tN]
 have rE:iu q p a n=kd q p a:=by rw[hn];exact Cp hp hin
 have rL: ∀j,j≤n→(tN (iu q p a j)).length=n+1:=fun j hj=>by rw[ix,Cq (by omega),hn]
 have rS: ∀j,j<n→((tN (iu q p a j)).set (j+1) (p.getD j 0).toNat).set j ((kd q p a).getD j 0).toNat=tN (iu q p a (j+1)):=fun j hj=>by
  rw[nk,nk,yP (by omega)]
 have rN: ∀j,j<n→(tN (iu q p a j)).getD (j+1) 0=0:=fun j hj=>by rw[iQ,yO (by omega)];rfl
 have rA: ∀j,j≤n→(tN (iu q p a j)).getD j 0=((0::p).getD j 0).toNat:=fun j hj=>by rw[iQ,F1 (by omega)]
 have rM:=fun j=>DK q a p j
 have e3:=mZ xs hi;have xi:=hx _ (ay 0 hi);have d1:=FA (a:=xs.getD i 0) (b:=a) (m:=q) xi ha hq q0;have hdl:(((xs.getD i 0:Nat):Int)-a)%q<q:=fQ _ (by omega)
 have hd0:0≤(((xs.getD i 0:Nat):Int)-a)%q:=fE _ (by omega)
 generalize (((xs.getD i 0:Nat):Int)-a)%q=dz at*;obtain⟨dn,rfl⟩: ∃d:Nat,dz=d:=⟨dz.toNat,by omega⟩
 rw[Int.toNat_natCast]at d1⊢;have d2:=nX (a:=s) (b:=dn) (m:=q) (by omega) (by omega) hq q0
 have lE:(tN (kd q p a)).length=n+1:=by rw[←rE];exact rL n (au _)
 have k1:=cu lE;have k2:=dK (tN (kd q p a));have k3:=cK lE;have k4:(az (tN (kd q p a))).length=n+1:=by rw[aS,lE]
 generalize xs.getD i 0=xv at*;refine ik.w mixed Tryz.call218 Tryz.func218 rfl (iL.1 _ _ _ (by cbv)) (iL.2 _ _ (by cbv)) (obs:=[oR tL (.v (.sl ((tN p).map cA))),oR none (.v (N q)),oR none (.v (.sl (xs.map cA))),oR tI (.v (E i)),oR tA (.v (N s))]) (args:=[.v (N a), .p 0 0 0, .p 1 0 0, .p 2 0 0, .p 3 0 0, .p 4 0 0]) (fs:=[some (some (oR tL (.v (.sl ((tN (kd q p a)).map cA))))),none,none,none,some (some (oR tA (.v (N (s*dn%q)))))]) (j:=none) (nw:=none) (v:= .tup []) (ns:=[1017,1000,1001,1012,1018]) (obsA:=[oR tL (.v (.sl ((tN p).map cA))),oR none (.v (N q)),oR none (.v (.sl (xs.map cA))),oR tI (.v (E i)),oR tA (.v (N s))]) rfl ?_ (by simp) (by simp) rfl (by simp[aQ,ax.aI,AV.aI,AV.aI.renL]) (by simp[aQ,AV.aI,cf]) (by simp[AV.aI,AV.aI.renL]) (by simp[eH,outs,ax.aI,AV.aI,AV.aI.renL])
 simp only[go_sem,seval];repeat' first|simp only[go_sem,seval,lP,ht trivial,fb]|refine sB ?_|(first|apply pX|apply bX)<;>intro hc|refine⟨oD,?_⟩|exact oD|fail
 refine aj (α:=Nat) (fun j=>n-j) (fun j=>⟨[(0, .v (N a)),(1, .p 0 0 0),(2, .p 1 0 0),(3, .p 2 0 0),(4, .p 3 0 0),(5, .p 4 0 0),(7, .rs 1003 0 0 (n+1) 1),(18, .v (.sl ((tN p).map cA))),(19,E' n),(20,E' j)],[(0,oR tL (.v (.sl ((tN p).map cA)))),(1,oR none (.v (N q))),(2,oR none (.v (.sl (xs.map cA)))),(3,oR tI (.v (E i))),(4,oR tA (.v (N s))),(1003,⟨0,az (tN (iu q p a j)),false,none⟩)],_⟩) (fun j=>j≤n) 0 (fun _=>au _) (aL _) ?_ ?_
 ·rw[r0]
  (refine AS.Le.of (by first|decide|omega) ?_ ?_<;>simp[cl,cj,aF,ar,AV.bd,AV.bd.bdL,u8,ah,ai,aq])
  all_goals exact fun c hc=>cZ hc
 ·intro j hj R hR
  by_cases hlt:j<n
  ·have hgo:=hR (j+1) (by omega) (by omega)
   have e1:=yr p (i:=j) (by omega)
   have hrm:=rM j;have hrn:=rN j hlt;have hra:=rA j (by omega)
   have hrs:=rS j hlt;have hrl:=rL j (by omega)
   rw[←hrs,hrm]at hgo;obtain⟨c,hc⟩:=iO (hin j);have hcq:=(hin j).2;obtain⟨v,hv⟩:=iO (x:=(0::p).getD j 0) (q:=q) (by
    cases j with
    |zero=>exact⟨kB _,by simp;omega⟩
    |succ j=>exact hin j)
   have hvq:v<q:=by
    have:(0::p).getD j 0<(q:Int):=by
     cases j with
     |zero=>simp;omega
     |succ j=>exact(hin j).2
    omega
   rw[hc]at hcq e1 hgo;rw[hv]at hra hgo;rw[Int.toNat_natCast]at e1 hra hgo;have m1:=yB (a:=0) (b:=c) (m:=q) (by decide) (by omega) hq q0
   rw[cW,bA (by omega)]at m1
   have m2:=nX (a:=c) (b:=a) (m:=q) (by omega) ha hq q0
   have m3:=FA (a:=v) (b:=c*a%q) (m:=q) (by omega) (by have:=aG (c*a) q0;omega) hq q0
   rw[show(((c*a%q:Nat):Int))=(c:Int)*a%q by push_cast;rfl]at m3
   generalize (((v:Int)-(c:Int)*a%q)%q).toNat=z at*;have ht1: ∀ _:True,((j:Int)+1).toNat=j+1:=fun _=>by omega
   generalize tN (iu q p a j)=R0 at*;have g0:(az R0).length=n+1:=by rw[aS,hrl]
   have g1:(az R0).getD (j+1) .u= .v (N 0):=by rw[fa (by omega),hrn]
   have g2:List.take (j+1) (az R0)++[AV.v (.s (aP c))]++List.drop (j+1+1) (az R0)=az (R0.set (j+1) c):=dc (by omega)
   have g3:(az (R0.set (j+1) c)).getD j .u= .v (N v):=by
    rw[fa (by rw[eP];omega),←hra]
    simp[aX,mj]
   have g4:(az (R0.set (j+1) c)).length=n+1:=by rw[aS,eP,hrl]
   have g5:List.take j (az (R0.set (j+1) c))++[AV.v (.s (aP z))]++List.drop (j+1) (az (R0.set (j+1) c))=az ((R0.set (j+1) c).set j z):=dc (by rw[eP];omega)
   clear hR rM rN rA rS rL d1 d2 k1 k2 k3 k4 r0 rE hin;repeat' first|simp only[go_sem,seval,lP,e1,ht1 trivial,g0,g1,g2,g3,g4,g5]|refine cP m1 ?_|refine cP m2 ?_|refine cP m3 ?_|refine sB ?_|(first|apply pX|apply bX)<;>intro hc|refine⟨oD,?_⟩|exact oD|fail
   refine hgo _ ?_
   (refine AS.Le.of (by first|decide|omega) ?_ ?_<;>simp[cl,cj,aF,ar,AV.bd,AV.bd.bdL,u8,ah,ai,aq])
   all_goals exact fun c hc=>cZ hc
  ·obtain rfl:j=n:=by omega
   rw[rE];clear hR rM rN rA rS rL;repeat' first|simp only[go_sem,seval,true_or,or_true,false_or,or_false,af,fU,dH,fG,eY,eZ,dJ,mR,nM,ft,fK,cJ,aE,AV.aI,AV.aI.renL,aA,lP,e3,k1,k2,k3,k4,cF]|refine cP d1 ?_|refine cP d2 ?_|refine sB ?_|(first|apply pX|apply bX)<;>intro hc|refine⟨oD,?_⟩|exact oD|fail
   all_goals trivial
theorem OI (nm:Nat) {q:Nat} (hq:q<18446744073709551616) (h1:1<q) {xs:List Nat} (hx: ∀a∈xs,a<18446744073709551616) {i:Nat} (hi:i<xs.length) (hxl:xs.length<1000000) {a:Nat} (ha:a<18446744073709551616) {p:List Int} (hp:p≠[]) (hin:Ih q p) (hpl:p.length<1000000) {s:Nat} (hs:s<q):
  ik Tryz.prog 218 nm [(1017,oR tL (.fs ((tN p).map cA))),(1000,oR none (.v (N q))),(1001,oR none (.v (.sl (xs.map cA)))),(1012,oR tI (.v (E i))),(1018,oR tA (.v (N s)))] [.v (N a), .p 1017 0 0, .p 1000 0 0, .p 1001 0 0, .p 1012 0 0, .p 1018 0 0] (.tup []) [(1017,some (oR tL (.v (.sl ((tN (kd q p a)).map cA))))),(1018,some (oR tA (.v (N (s*((((xs.getD i 0:Nat):Int)-a)%q).toNat%q)))))]:=by
 have q0:0<q:=by omega
 obtain⟨n,hn⟩: ∃n,n=p.length:=⟨_,rfl⟩;have lP:(tN p).length=n:=by rw[ix,hn]
 have ht: ∀ _:True,((n:Int)+1).toNat=n+1:=fun _=>by omega
 have r0:tN (iu q p a 0)=List.replicate (n+1) 0:=by rw[KY,hn];simp[tN]
 have rE:iu q p a n=kd q p a:=by rw[hn];exact Cp hp hin
 have rL: ∀j,j≤n→(tN (iu q p a j)).length=n+1:=fun j hj=>by rw[ix,Cq (by omega),hn]
 have rS: ∀j,j<n→((tN (iu q p a j)).set (j+1) (p.getD j 0).toNat).set j ((kd q p a).getD j 0).toNat=tN (iu q p a (j+1)):=fun j hj=>by
  rw[nk,nk,yP (by omega)]
 have rN: ∀j,j<n→(tN (iu q p a j)).getD (j+1) 0=0:=fun j hj=>by rw[iQ,yO (by omega)];rfl
 have rA: ∀j,j≤n→(tN (iu q p a j)).getD j 0=((0::p).getD j 0).toNat:=fun j hj=>by rw[iQ,F1 (by omega)]
 have rM:=fun j=>DK q a p j
 have e3:=mZ xs hi;have xi:=hx _ (ay 0 hi);have d1:=FA (a:=xs.getD i 0) (b:=a) (m:=q) xi ha hq q0;have hdl:(((xs.getD i 0:Nat):Int)-a)%q<q:=fQ _ (by omega)
 have hd0:0≤(((xs.getD i 0:Nat):Int)-a)%q:=fE _ (by omega)
 generalize (((xs.getD i 0:Nat):Int)-a)%q=dz at*;obtain⟨dn,rfl⟩: ∃d:Nat,dz=d:=⟨dz.toNat,by omega⟩
 rw[Int.toNat_natCast]at d1⊢;have d2:=nX (a:=s) (b:=dn) (m:=q) (by omega) (by omega) hq q0
 have lE:(tN (kd q p a)).length=n+1:=by rw[←rE];exact rL n (au _)
 have k1:=cu lE;have k2:=dK (tN (kd q p a));have k3:=cK lE;have k4:(az (tN (kd q p a))).length=n+1:=by rw[aS,lE]
 generalize xs.getD i 0=xv at*;refine ik.w mixed Tryz.call218 Tryz.func218 rfl (iL.1 _ _ _ (by cbv)) (iL.2 _ _ (by cbv)) (obs:=[oR tL (.fs ((tN p).map cA)),oR none (.v (N q)),oR none (.v (.sl (xs.map cA))),oR tI (.v (E i)),oR tA (.v (N s))]) (args:=[.v (N a), .p 0 0 0, .p 1 0 0, .p 2 0 0, .p 3 0 0, .p 4 0 0]) (fs:=[some (some (oR tL (.v (.sl ((tN (kd q p a)).map cA))))),none,none,none,some (some (oR tA (.v (N (s*dn%q)))))]) (j:=none) (nw:=none) (v:= .tup []) (ns:=[1017,1000,1001,1012,1018]) (obsA:=[oR tL (.fs ((tN p).map cA)),oR none (.v (N q)),oR none (.v (.sl (xs.map cA))),oR tI (.v (E i)),oR tA (.v (N s))]) rfl ?_ (by simp) (by simp) rfl (by simp[aQ,ax.aI,AV.aI,AV.aI.renL]) (by simp[aQ,AV.aI,cf]) (by simp[AV.aI,AV.aI.renL]) (by simp[eH,outs,ax.aI,AV.aI,AV.aI.renL])
 simp only[go_sem,seval];repeat' first|simp only[go_sem,seval,lP,ht trivial,fb]|refine sB ?_|(first|apply pX|apply bX)<;>intro hc|refine⟨oD,?_⟩|exact oD|fail
 refine aj (α:=Nat) (fun j=>n-j) (fun j=>⟨[(0, .v (N a)),(1, .p 0 0 0),(2, .p 1 0 0),(3, .p 2 0 0),(4, .p 3 0 0),(5, .p 4 0 0),(7, .rs 1003 0 0 (n+1) 1),(18, .fs ((tN p).map cA)),(19,E' n),(20,E' j)],[(0,oR tL (.fs ((tN p).map cA))),(1,oR none (.v (N q))),(2,oR none (.v (.sl (xs.map cA)))),(3,oR tI (.v (E i))),(4,oR tA (.v (N s))),(1003,⟨0,az (tN (iu q p a j)),false,none⟩)],_⟩) (fun j=>j≤n) 0 (fun _=>au _) (aL _) ?_ ?_
 ·rw[r0]
  (refine AS.Le.of (by first|decide|omega) ?_ ?_<;>simp[cl,cj,aF,ar,AV.bd,AV.bd.bdL,u8,ah,ai,aq])
  all_goals exact fun c hc=>cZ hc
 ·intro j hj R hR
  by_cases hlt:j<n
  ·have hgo:=hR (j+1) (by omega) (by omega)
   have e1:=yr p (i:=j) (by omega)
   have hrm:=rM j;have hrn:=rN j hlt;have hra:=rA j (by omega)
   have hrs:=rS j hlt;have hrl:=rL j (by omega)
   rw[←hrs,hrm]at hgo;obtain⟨c,hc⟩:=iO (hin j);have hcq:=(hin j).2;obtain⟨v,hv⟩:=iO (x:=(0::p).getD j 0) (q:=q) (by
    cases j with
    |zero=>exact⟨kB _,by simp;omega⟩
    |succ j=>exact hin j)
   have hvq:v<q:=by
    have:(0::p).getD j 0<(q:Int):=by
     cases j with
     |zero=>simp;omega
     |succ j=>exact(hin j).2
    omega
   rw[hc]at hcq e1 hgo;rw[hv]at hra hgo;rw[Int.toNat_natCast]at e1 hra hgo;have m1:=yB (a:=0) (b:=c) (m:=q) (by decide) (by omega) hq q0
   rw[cW,bA (by omega)]at m1
   have m2:=nX (a:=c) (b:=a) (m:=q) (by omega) ha hq q0
   have m3:=FA (a:=v) (b:=c*a%q) (m:=q) (by omega) (by have:=aG (c*a) q0;omega) hq q0
   rw[show(((c*a%q:Nat):Int))=(c:Int)*a%q by push_cast;rfl]at m3
   generalize (((v:Int)-(c:Int)*a%q)%q).toNat=z at*;have ht1: ∀ _:True,((j:Int)+1).toNat=j+1:=fun _=>by omega
   generalize tN (iu q p a j)=R0 at*;have g0:(az R0).length=n+1:=by rw[aS,hrl]
   have g1:(az R0).getD (j+1) .u= .v (N 0):=by rw[fa (by omega),hrn]
   have g2:List.take (j+1) (az R0)++[AV.v (.s (aP c))]++List.drop (j+1+1) (az R0)=az (R0.set (j+1) c):=dc (by omega)
   have g3:(az (R0.set (j+1) c)).getD j .u= .v (N v):=by
    rw[fa (by rw[eP];omega),←hra]
    simp[aX,mj]
   have g4:(az (R0.set (j+1) c)).length=n+1:=by rw[aS,eP,hrl]
   have g5:List.take j (az (R0.set (j+1) c))++[AV.v (.s (aP z))]++List.drop (j+1) (az (R0.set (j+1) c))=az ((R0.set (j+1) c).set j z):=dc (by rw[eP];omega)
   clear hR rM rN rA rS rL d1 d2 k1 k2 k3 k4 r0 rE hin;repeat' first|simp only[go_sem,seval,lP,e1,ht1 trivial,g0,g1,g2,g3,g4,g5]|refine cP m1 ?_|refine cP m2 ?_|refine cP m3 ?_|refine sB ?_|(first|apply pX|apply bX)<;>intro hc|refine⟨oD,?_⟩|exact oD|fail
   refine hgo _ ?_
   (refine AS.Le.of (by first|decide|omega) ?_ ?_<;>simp[cl,cj,aF,ar,AV.bd,AV.bd.bdL,u8,ah,ai,aq])
   all_goals exact fun c hc=>cZ hc
  ·obtain rfl:j=n:=by omega
   rw[rE];clear hR rM rN rA rS rL;repeat' first|simp only[go_sem,seval,true_or,or_true,false_or,or_false,af,fU,dH,fG,eY,eZ,dJ,mR,nM,ft,fK,cJ,aE,AV.aI,AV.aI.renL,aA,lP,e3,k1,k2,k3,k4,cF]|refine cP d1 ?_|refine cP d2 ?_|refine sB ?_|(first|apply pX|apply bX)<;>intro hc|refine⟨oD,?_⟩|exact oD|fail
   all_goals trivial
noncomputable def fN (q:Nat) (xs ys:List Nat) (k:Nat):Int:=((ys.getD k 0*eV (th q (xs.getD k 0:Nat) ((nI xs).eraseIdx k)).toNat q%q:Nat):Int)
noncomputable def pL (q:Nat) (xs ys:List Nat):List Nat:=tN (HZ q (nI xs) (fN q xs ys))
theorem TU:(tN [1]).map cA=[PV.s [1]]:=congrArg (fun b=>[PV.s b]) (by decide:aP 1=[1])
theorem CM {q:Nat} (hq:q<18446744073709551616) (h1:1<q) {xs ys:List Nat} (hx: ∀a∈xs,a<18446744073709551616) (hy: ∀a∈ys,a<18446744073709551616) (hl:ys.length=xs.length) (hxl:xs.length<1000000) (hg: ∀i,i<xs.length→Nat.gcd (th q (xs.getD i 0:Nat) ((nI xs).eraseIdx i)).toNat q=1):aD Tryz.prog 139 [N q, .sl (xs.map cA), .sl (ys.map cA)] (.sl ((pL q xs ys).map cA)):=by
 have q0:0<q:=by omega
 obtain⟨n,hn⟩: ∃n,n=xs.length:=⟨_,rfl⟩;have lX:xs.length=n:=hn.symm;have lY:ys.length=n:=by rw[hl,hn]
 have lI:(nI xs).length=n:=by rw[pB,hn]
 obtain⟨P,hP⟩: ∃P:Nat→List Int,P=fun k=>xR q ((nI xs).eraseIdx k):=⟨_,rfl⟩
 obtain⟨f,hf⟩: ∃f:Nat→Int,f=fN q xs ys:=⟨_,rfl⟩;have hT:pL q xs ys=tN (eu q P f n n 0):=by
  unfold pL;rw[←lI,hP,Ca,hf]
 rw[hT];have r0:tN (eu q P f n 0 0)=List.replicate n 0:=by rw[Kt];simp[tN]
 have rl: ∀i,(tN (eu q P f n i 0)).length=n:=fun i=>by rw[ix,j6]
 clear hT;refine eW Tryz.call139 Tryz.func139 ?_;repeat' first|simp only[go_sem,seval,lX,fb]|refine sB ?_|(first|apply pX|apply bX)<;>intro hc|refine⟨oD,?_⟩|exact oD|fail
 refine aj (α:=Nat) (fun i=>n-i) (fun i=>⟨[(2, .v (.sl (ys.map cA))),(3, .p 1000 0 0),(4, .p 1001 0 0),(7, .rs 1005 0 0 n 1),(25, .v (.sl (xs.map cA))),(26,E' n),(27,E' i)],[(1000,oR none (.v (N q))),(1001,oR none (.v (.sl (xs.map cA)))),(1005,⟨0,az (tN (eu q P f n i 0)),false,none⟩)],_⟩) (fun i=>i≤n) 0 (fun _=>au _) (aL _) ?_ ?_
 ·rw[r0]
  (refine AS.Le.of (by first|decide|omega) ?_ ?_<;>simp[cl,cj,aF,ar,AV.bd,AV.bd.bdL,u8,ah,ai,aq])
  all_goals exact fun c hc=>cZ hc
 ·intro i hi Ro hRo
  by_cases hlt:i<n
  ·have hi':i<xs.length:=by omega
   obtain⟨x,hxi⟩: ∃x:Nat,x=xs.getD i 0:=⟨_,rfl⟩;obtain⟨L,hL⟩: ∃L:List Int,L=nI xs:=⟨_,rfl⟩;have hgi:=hg i hi';rw[←hL,←hxi]at hgi;have hfi0:f i=((ys.getD i 0*eV (th q x (L.eraseIdx i)).toNat q%q:Nat):Int):=by rw[hf,hL,hxi];rfl
   have hpi:P i=xR q (L.eraseIdx i):=by rw[hP,hL]
   repeat' first|simp only[go_sem,seval,lX]|refine cP pV ?_|refine sB ?_|(first|apply pX|apply bX)<;>intro hc|refine⟨oD,?_⟩|exact oD|fail
   refine aj (α:=Nat×Bool) (fun s=>n-s.1) (fun s=>match s with|(k,true)=>⟨[(2, .v (.sl (ys.map cA))),(3, .p 1000 0 0),(4, .p 1001 0 0),(7, .rs 1005 0 0 n 1),(25, .v (.sl (xs.map cA))),(26,E' n),(27,E' i),(8, .p 1012 0 0),(9, .p 1017 0 0),(10, .p 1018 0 0),(11, .fn (.func 218) [] [.p 1017 0 0, .p 1000 0 0, .p 1001 0 0, .p 1012 0 0, .p 1018 0 0]),(34, .v (.sl (xs.map cA))),(35,E' n),(36,E' k)],[(1000,oR none (.v (N q))),(1001,oR none (.v (.sl (xs.map cA)))),(1005,⟨0,az (tN (eu q P f n i 0)),false,none⟩),(1012,oR tI (.v (E i))),(1017,oR tL (.v (.sl ((tN (xR q (nP L i k))).map cA)))),(1018,oR tA (.v (N (th q x (nP L i k)).toNat)))],1026⟩|(k,false)=>⟨[(2, .v (.sl (ys.map cA))),(3, .p 1000 0 0),(4, .p 1001 0 0),(7, .rs 1005 0 0 n 1),(25, .v (.sl (xs.map cA))),(26,E' n),(27,E' i),(8, .p 1012 0 0),(9, .p 1017 0 0),(10, .p 1018 0 0),(11, .fn (.func 218) [] [.p 1017 0 0, .p 1000 0 0, .p 1001 0 0, .p 1012 0 0, .p 1018 0 0]),(34, .v (.sl (xs.map cA))),(35,E' n),(36,E' k)],[(1000,oR none (.v (N q))),(1001,oR none (.v (.sl (xs.map cA)))),(1005,⟨0,az (tN (eu q P f n i 0)),false,none⟩),(1012,oR tI (.v (E i))),(1017,oR tL (.fs [.s [1]])),(1018,oR tA (.v (.s [1])))],1026⟩) (fun s=>s.1≤n∧(s.2=false→nP L i s.1=[])) (0,false) (fun s=>by obtain⟨k,b⟩:=s;cases b<;>exact bQ rfl) ⟨aL _,fun _=>Jp _ _⟩ ?_ ?_
   ·(refine AS.Le.of (by first|decide|omega) ?_ ?_<;>simp[cl,cj,aF,ar,AV.bd,AV.bd.bdL,u8,ah,ai,aq])
    all_goals exact fun c hc=>cZ hc
   ·rintro⟨k,b⟩ ⟨hk,hb⟩ R hR;simp only at hk hb
    by_cases hkn:k<n
    ·by_cases hki:k=i
     ·have hex:nP L i (k+1)=nP L i k:=by rw[hki];exact Jq (by rw[hL];omega)
      have hgo:=hR (k+1,b) ⟨by show k+1≤n;omega,fun h=>by show nP L i (k+1)=[];rw[hex];exact hb h⟩ (by show n-(k+1)<n-k;omega)
      have e2:=mZ xs (i:=k) (by omega)
      clear hR hRo hg
      cases b<;>simp only[hex]at hgo<;>clear hb hex hgi hfi0 hpi
      ·repeat' first|simp only[go_sem,seval,lX,e2]|refine sB ?_|(first|apply pX|apply bX)<;>intro hc|refine⟨oD,?_⟩|exact oD|fail
       refine hgo _ ?_
       (refine AS.Le.of (by first|decide|omega) ?_ ?_<;>simp[cl,cj,aF,ar,AV.bd,AV.bd.bdL,u8,ah,ai,aq])
       all_goals exact fun c hc=>cZ hc
      ·repeat' first|simp only[go_sem,seval,lX,e2]|refine sB ?_|(first|apply pX|apply bX)<;>intro hc|refine⟨oD,?_⟩|exact oD|fail
       refine hgo _ ?_
       (refine AS.Le.of (by first|decide|omega) ?_ ?_<;>simp[cl,cj,aF,ar,AV.bd,AV.bd.bdL,u8,ah,ai,aq])
       all_goals exact fun c hc=>cZ hc
     ·have hex:nP L i (k+1)=nP L i k++[((xs.getD k 0:Nat):Int)]:=by rw[Jr (by rw[hL];omega) hki,hL,qy]
      have hgo:=hR (k+1,true) ⟨by show k+1≤n;omega,fun h=>by cases h⟩ (by show n-(k+1)<n-k;omega)
      simp only[hex,BW,Cy]at hgo;have e2:=mZ xs (i:=k) (by omega)
      have xk:=hx _ (ay 0 (show k<xs.length by omega))
      have hnki: ¬((k:Int)=(i:Int)):=by omega
      clear hR hRo hg hgi hfi0 hpi;cases b
      ·have he:=hb rfl;rw[he]at hgo;have hc:=fun nm=>OI nm hq h1 hx hi' hxl xk (p:=[1]) (by simp) (Ks (by omega)) (by decide) (s:=1) h1
       rw[TU,←hxi]at hc;rw[show N 1= .s [1]from congrArg PV.s (by decide:aP 1=[1])]at hc
       have hs1:(th q x []*((((x:Nat):Int)-(xs.getD k 0:Nat))%q)%q).toNat=1*((((x:Nat):Int)-(xs.getD k 0:Nat))%q).toNat%q:=by
        obtain⟨d,hd⟩:=iO (q:=(q:Int)) ⟨fE (((x:Nat):Int)-(xs.getD k 0:Nat)) (by omega),fQ _ (by omega)⟩
        rw[hd,Int.toNat_natCast,show th q x []=((1:Nat):Int)from rfl,←Int.natCast_mul,←Int.natCast_emod,Int.toNat_natCast]
       rw[hs1,show xR q []=[1]from rfl]at hgo
       generalize xs.getD k 0=y at*;generalize 1*((((x:Nat):Int)-y)%q).toNat%q=s2 at*;generalize kd q [1] y=p2 at*;clear hb he;repeat' first|simp only[go_sem,seval,lX,e2]|(refine br (hc _) (by simp[ar]) ?_)|refine sB ?_|(first|apply pX|apply bX)<;>intro hc|refine⟨oD,?_⟩|exact oD|fail
       refine hgo _ ?_
       (refine AS.Le.of (by first|decide|omega) ?_ ?_<;>simp[cl,cj,aF,ar,AV.bd,AV.bd.bdL,u8,ah,ai,aq])
       all_goals exact fun c hc=>cZ hc
      ·have hsi:=sH (q:=(q:Int)) (by omega) x (nP L i k)
       obtain⟨s0,hs0⟩:=iO hsi;have hc:=fun nm=>OJ nm hq h1 hx hi' hxl xk (p:=xR q (nP L i k)) (by intro h;have:=zP q (nP L i k);rw[h]at this;simp at this) (zO (by omega) _) (by rw[zP];unfold nP;have:=List.length_eraseIdx_le (L.take k) i;have:=List.length_take_le k L;omega) (s:=s0) (by omega)
       rw[←hxi]at hc;have hs1:(th q x (nP L i k)*((((x:Nat):Int)-(xs.getD k 0:Nat))%q)%q).toNat=s0*((((x:Nat):Int)-(xs.getD k 0:Nat))%q).toNat%q:=by
        obtain⟨d,hd⟩:=iO (q:=(q:Int)) ⟨fE (((x:Nat):Int)-(xs.getD k 0:Nat)) (by omega),fQ _ (by omega)⟩
        rw[hs0,hd,Int.toNat_natCast,←Int.natCast_mul,←Int.natCast_emod,Int.toNat_natCast]
       rw[hs1]at hgo;simp only[hs0,Int.toNat_natCast];generalize xs.getD k 0=y at*;generalize s0*((((x:Nat):Int)-y)%q).toNat%q=s2 at*;generalize xR q (nP L i k)=p1 at*;generalize kd q p1 y=p2 at*;clear hb hsi hs0 hs1 hex;repeat' first|simp only[go_sem,seval,lX,e2]|(refine br (hc _) (by simp[ar]) ?_)|refine sB ?_|(first|apply pX|apply bX)<;>intro hc|refine⟨oD,?_⟩|exact oD|fail
       refine hgo _ ?_
       (refine AS.Le.of (by first|decide|omega) ?_ ?_<;>simp[cl,cj,aF,ar,AV.bd,AV.bd.bdL,u8,ah,ai,aq])
       all_goals exact fun c hc=>cZ hc
    ·obtain rfl:n=k:=by omega
     have hend:nP L i n=L.eraseIdx i:=by have:=Fc L i;rwa[show L.length=n by rw[hL];exact lI]at this
     rw[hend]at hb;have e4:=mZ ys (i:=i) (by omega)
     have yi:=hy _ (ay 0 (show i<ys.length by omega))
     generalize ys.getD i 0=y at*;obtain⟨p,hpd⟩: ∃p,p=xR q (L.eraseIdx i):=⟨_,rfl⟩;have hpp:p=P i:=by rw[hpd,hpi]
     have hin:Ih q p:=by rw[hpd];exact zO (by omega) _
     have hpl:p.length=n:=by rw[hpd,zP,List.length_eraseIdx,if_pos (by rw[hL];omega),hL,lI];omega
     have lP:(tN p).length=n:=by rw[ix,hpl]
     obtain⟨s0,hs0⟩:=iO (sH (q:=(q:Int)) (by omega) x (L.eraseIdx i))
     have hsq:=(sH (q:=(q:Int)) (by omega) x (L.eraseIdx i)).2
     rw[hs0,Int.toNat_natCast]at hgi hfi0;rw[hs0]at hsq;have iv:=pc (a:=s0) (m:=q) (by omega) hq q0 hgi
     have ivl:eV s0 q<q:=(fA q0 hgi).inv.1;have m0:=nX (a:=y) (b:=eV s0 q) (m:=q) yi (by omega) hq q0
     obtain⟨fi,hfi1⟩: ∃fi,fi=y*eV s0 q%q:=⟨_,rfl⟩;have hfiq:fi<q:=by rw[hfi1];exact aG _ q0
     rw[←hfi1]at hfi0 m0;have hfi:f i=(fi:Int):=hfi0;have hgl:=hg;clear hR hg hfi0 hfi1;cases b
     ·have he:=hb rfl;rw[he]at hpd hs0;have hp1:p=[1]:=hpd;have hs1:s0=1:=by have:th (q:Int) x []=1:=rfl;omega
      rw[hs1,show N 1= .s [1]from congrArg PV.s (by decide:aP 1=[1])]at iv
      rw[hs1]at m0;have hpq:([PV.s [1]]:List PV)=(tN p).map cA:=by rw[hp1,TU]
      have l1:([PV.s [1]]:List PV).length=n:=by rw[hpq,aH];exact lP
      simp only[List.length_cons,List.length_nil]at l1;clear hpd hs0 hs1 hgi he hb;simp only[hpq];repeat' first|simp only[go_sem,seval,lX,lY,lP,e4]|refine cP iv ?_|refine cP m0 ?_|refine sB ?_|(first|apply pX|apply bX)<;>intro hc|refine⟨oD,?_⟩|exact oD|fail
      refine aj (α:=Nat) (fun j=>n-j) (fun j=>⟨[(2, .v (.sl (ys.map cA))),(3, .p 1000 0 0),(4, .p 1001 0 0),(7, .rs 1005 0 0 n 1),(25, .v (.sl (xs.map cA))),(26,E' n),(27,E' i),(16, .v (N fi)),(64, .fs ((tN p).map cA)),(65,E' n),(66,E' j)],[(1000,oR none (.v (N q))),(1001,oR none (.v (.sl (xs.map cA)))),(1005,⟨0,az (tN (eu q P f n i j)),false,none⟩)],1050⟩) (fun j=>j≤n) 0 (fun _=>bQ rfl) (aL _) ?_ ?_
      ·(refine AS.Le.of (by first|decide|omega) ?_ ?_<;>simp[cl,cj,aF,ar,AV.bd,AV.bd.bdL,u8,ah,ai,aq])
       all_goals exact fun c hc=>cZ hc
      ·intro j hj R hR
       by_cases hjn:j<n
       ·have hgo:=hR (j+1) (by omega) (by omega)
        have e5:=yr p (i:=j) (by omega)
        have ho1:(tN (eu q P f n i j)).getD j 0=(xL q P f j i).toNat:=by rw[iQ,zU hjn]
        have ho2:(tN (eu q P f n i j)).set j (xL q P f j (i+1)).toNat=tN (eu q P f n i (j+1)):=by rw[nk,su hjn]
        have hol:(tN (eu q P f n i j)).length=n:=by rw[ix,j6]
        rw[←ho2]at hgo;obtain⟨a0,ha0⟩:=iO (pf (q:=(q:Int)) (by omega) P f j i)
        have ha0q:=(pf (q:=(q:Int)) (by omega) P f j i).2
        have hstep:xL q P f j (i+1)=(xL q P f j i+p.getD j 0*f i%q)%q:=by rw[hpp];rfl
        obtain⟨c,hc⟩:=iO (hin j);have hcq:=(hin j).2;rw[hc]at hcq e5 hstep;rw[ha0]at ho1 ha0q hstep;rw[hfi,show((a0:Int)+(c:Int)*(fi:Int)%q)%q=(((a0+c*fi%q)%q:Nat):Int) by push_cast;rfl]at hstep
        rw[hstep]at hgo;rw[Int.toNat_natCast]at e5 ho1 hgo;have m1:=nX (a:=c) (b:=fi) (m:=q) (by omega) (by omega) hq q0
        have m2:=yB (a:=a0) (b:=c*fi%q) (m:=q) (by omega) (by have:=aG (c*fi) q0;omega) hq q0
        generalize (a0+c*fi%q)%q=z at*;generalize tN (eu q P f n i j)=R0 at*;have g0:(az R0).length=n:=by rw[aS,hol]
        have g1:(az R0).getD j .u= .v (N a0):=by rw[fa (by omega),ho1]
        have g2:List.take j (az R0)++[AV.v (.s (aP z))]++List.drop (j+1) (az R0)=az (R0.set j z):=dc (by omega)
        clear hR hRo hgl hstep ho2;repeat' first|simp only[go_sem,seval,lX,lP,e5,g0,g1,g2]|refine cP m1 ?_|refine cP m2 ?_|refine sB ?_|(first|apply pX|apply bX)<;>intro hc|refine⟨oD,?_⟩|exact oD|fail
        refine hgo _ ?_
        (refine AS.Le.of (by first|decide|omega) ?_ ?_<;>simp[cl,cj,aF,ar,AV.bd,AV.bd.bdL,u8,ah,ai,aq])
        all_goals exact fun c hc=>cZ hc
       ·obtain rfl:j=n:=by omega
        rw[ss];have hgo:=hRo (i+1) (by omega) (by omega)
        clear hR hRo;repeat' first|simp only[go_sem,seval,lX,lP]|refine sB ?_|(first|apply pX|apply bX)<;>intro hc|refine⟨oD,?_⟩|exact oD|fail
        refine hgo _ ?_
        (refine AS.Le.of (by first|decide|omega) ?_ ?_<;>simp[cl,cj,aF,ar,AV.bd,AV.bd.bdL,u8,ah,ai,aq])
        all_goals exact fun c hc=>cZ hc
     ·simp only[hend,←hpd,hs0,Int.toNat_natCast];clear hpd hs0 hgi hb;repeat' first|simp only[go_sem,seval,lX,lY,lP,e4]|refine cP iv ?_|refine cP m0 ?_|refine sB ?_|(first|apply pX|apply bX)<;>intro hc|refine⟨oD,?_⟩|exact oD|fail
      refine aj (α:=Nat) (fun j=>n-j) (fun j=>⟨[(2, .v (.sl (ys.map cA))),(3, .p 1000 0 0),(4, .p 1001 0 0),(7, .rs 1005 0 0 n 1),(25, .v (.sl (xs.map cA))),(26,E' n),(27,E' i),(16, .v (N fi)),(64, .v (.sl ((tN p).map cA))),(65,E' n),(66,E' j)],[(1000,oR none (.v (N q))),(1001,oR none (.v (.sl (xs.map cA)))),(1005,⟨0,az (tN (eu q P f n i j)),false,none⟩)],1050⟩) (fun j=>j≤n) 0 (fun _=>bQ rfl) (aL _) ?_ ?_
      ·(refine AS.Le.of (by first|decide|omega) ?_ ?_<;>simp[cl,cj,aF,ar,AV.bd,AV.bd.bdL,u8,ah,ai,aq])
       all_goals exact fun c hc=>cZ hc
      ·intro j hj R hR
       by_cases hjn:j<n
       ·have hgo:=hR (j+1) (by omega) (by omega)
        have e5:=yr p (i:=j) (by omega)
        have ho1:(tN (eu q P f n i j)).getD j 0=(xL q P f j i).toNat:=by rw[iQ,zU hjn]
        have ho2:(tN (eu q P f n i j)).set j (xL q P f j (i+1)).toNat=tN (eu q P f n i (j+1)):=by rw[nk,su hjn]
        have hol:(tN (eu q P f n i j)).length=n:=by rw[ix,j6]
        rw[←ho2]at hgo;obtain⟨a0,ha0⟩:=iO (pf (q:=(q:Int)) (by omega) P f j i)
        have ha0q:=(pf (q:=(q:Int)) (by omega) P f j i).2
        have hstep:xL q P f j (i+1)=(xL q P f j i+p.getD j 0*f i%q)%q:=by rw[hpp];rfl
        obtain⟨c,hc⟩:=iO (hin j);have hcq:=(hin j).2;rw[hc]at hcq e5 hstep;rw[ha0]at ho1 ha0q hstep;rw[hfi,show((a0:Int)+(c:Int)*(fi:Int)%q)%q=(((a0+c*fi%q)%q:Nat):Int) by push_cast;rfl]at hstep
        rw[hstep]at hgo;rw[Int.toNat_natCast]at e5 ho1 hgo;have m1:=nX (a:=c) (b:=fi) (m:=q) (by omega) (by omega) hq q0
        have m2:=yB (a:=a0) (b:=c*fi%q) (m:=q) (by omega) (by have:=aG (c*fi) q0;omega) hq q0
        generalize (a0+c*fi%q)%q=z at*;generalize tN (eu q P f n i j)=R0 at*;have g0:(az R0).length=n:=by rw[aS,hol]
        have g1:(az R0).getD j .u= .v (N a0):=by rw[fa (by omega),ho1]
        have g2:List.take j (az R0)++[AV.v (.s (aP z))]++List.drop (j+1) (az R0)=az (R0.set j z):=dc (by omega)
        clear hR hRo hgl hstep ho2;repeat' first|simp only[go_sem,seval,lX,lP,e5,g0,g1,g2]|refine cP m1 ?_|refine cP m2 ?_|refine sB ?_|(first|apply pX|apply bX)<;>intro hc|refine⟨oD,?_⟩|exact oD|fail
        refine hgo _ ?_
        (refine AS.Le.of (by first|decide|omega) ?_ ?_<;>simp[cl,cj,aF,ar,AV.bd,AV.bd.bdL,u8,ah,ai,aq])
        all_goals exact fun c hc=>cZ hc
       ·obtain rfl:j=n:=by omega
        rw[ss];have hgo:=hRo (i+1) (by omega) (by omega)
        clear hR hRo;repeat' first|simp only[go_sem,seval,lX,lP]|refine sB ?_|(first|apply pX|apply bX)<;>intro hc|refine⟨oD,?_⟩|exact oD|fail
        refine hgo _ ?_
        (refine AS.Le.of (by first|decide|omega) ?_ ?_<;>simp[cl,cj,aF,ar,AV.bd,AV.bd.bdL,u8,ah,ai,aq])
        all_goals exact fun c hc=>cZ hc
  ·obtain rfl:i=n:=by omega
   have k1:=cu (rl i);have k2:=dK (tN (eu q P f i i 0));have k3:=cK (rl i);have k4:(az (tN (eu q P f i i 0))).length=i:=by rw[aS,rl]
   clear hRo;repeat' first|simp only[go_sem,seval,lX,k1,k2,k3,k4,cF]|refine sB ?_|(first|apply pX|apply bX)<;>intro hc|refine⟨oD,?_⟩|exact oD|fail
   all_goals trivial
end Go.Proofs.YtmobkhegihemeaaGreatDoor
