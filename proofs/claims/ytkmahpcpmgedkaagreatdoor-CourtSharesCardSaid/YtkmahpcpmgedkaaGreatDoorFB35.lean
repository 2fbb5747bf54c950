/- Part of the proof. -/
import Derived.Test.YtkmahpcpmgedkaaGreatDoorFB34
set_option linter.all false
set_option maxHeartbeats 16000000
set_option maxRecDepth 100000
namespace Go.Proofs.Tryz
open Go Go.Dom Go.Num
variable {a i q sec:Nat} {count e need:Int} {n sd:Bytes} {vs:List Bytes} {xs ys:List Nat}
theorem db {l:List Nat} {n:Nat} (h:l.length=n):List.take n (aE l)=aE l:=cb (by rw[bw];omega)
theorem eX (l:List Nat):(aE l).all AV.one=true:=by simp[aE,AV.one,PV.one]
theorem dC (hf:Nat->Option aF) (k:Nat) (l:List Nat):bz (view hf (k+1)) (aE l)=some (l.map dr):=by
 have:=eQ hf k (l.map dr)
 rwa[iB]at this
theorem dJ {l:List Nat} {n:Nat} (h:l.length=n):chunk 1 n (l.map dr)=l.map dr:=by
 have:=nZ (l.map dr)
 rwa[aB,h]at this
theorem pq (l:List Int) (i:Nat) (x:Int):(tN l).set i x.toNat=tN (l.set i x):=by simp[tN,uB]
theorem BP (p:List Int) (h:i<p.length):((tN p).map dr).getD i .fn0=N (p.getD i 0).toNat:=by
 rw[o6 _ (by rw[ju];exact h),jY]
theorem jV {q x:Int} (h:0<=x/\x<q): ∃n:Nat,x=n:=⟨x.toNat,(lz h.1).symm⟩
abbrev oR (e:Option TypeId) (x:AV):aF:=⟨0,[x],false,e⟩
abbrev tI:Option TypeId:=some 3
abbrev tL:Option TypeId:=some 27
abbrev tA:Option TypeId:=some 22
theorem SI (nm:Nat) (hq:q<(2^64)) (h1:1<q) (hx: ∀a∈xs,a<(2^64)) (hi:i<xs.length) (hxl:xs.length<1000000) (ha:a<(2^64)) {p:List Int} (hp:p≠[]) (hin:LH q p) (hpl:p.length<1000000) {s:Nat} (hs:s<q):
  mw prog 330 nm [(1017,oR tL (.v (.sl ((tN p).map dr)))),(1000,oR none (.v (N q))),(1001,oR none (.v (.sl (xs.map dr)))),(1012,oR tI (.v (E i))),(1018,oR tA (.v (N s)))] [.v (N a), .p 1017 0 0, .p 1000 0 0, .p 1001 0 0, .p 1012 0 0, .p 1018 0 0] (.tup []) [(1017,some (oR tL (.v (.sl ((tN (mb q p a)).map dr))))),(1018,some (oR tA (.v (N (s*((((xs.getD i 0:Nat):Int)-a)%q).toNat%q)))))]:=by
 have q0:0<q:=oO;obtain⟨n,hn⟩: ∃n,n=p.length:=⟨_,rfl⟩;have lP:(tN p).length=n:=by rw[ju,hn]
 have ht: ∀ _:True,((n:Int)+1).toNat=n+1:=fun _=>oO
 have r0:tN (jt q p a 0)=List.replicate (n+1) 0:=by rw[OB,hn];simp[tN]
 have rE:jt q p a n=mb q p a:=by rw[hn];exact FI hp hin
 have rL: ∀j,j<=n->(tN (jt q p a j)).length=n+1:=fun j hj=>by rw[ju,FJ oO,hn]
 have rS: ∀j,j<n->((tN (jt q p a j)).set (j+1) (p.getD j 0).toNat).set j ((mb q p a).getD j 0).toNat=tN (jt q p a (j+1)):=fun j hj=>by
  rw[pq,pq,Cl oO]
 have rN: ∀j,j<n->(tN (jt q p a j)).getD (j+1) 0=0:=fun j hj=>by rw[jY,Ck oO];rfl
 have rA: ∀j,j<=n->(tN (jt q p a j)).getD j 0=((0::p).getD j 0).toNat:=fun j hj=>by rw[jY,Jd oO]
 have rM:=fun j=>GY q a p j
 have e3:=o6 xs hi;have xi:=hx _ (aq 0 hi);have d1:=IS (a:=xs.getD i 0) (b:=a) (m:=q) xi ha hq q0;have hdl:(((xs.getD i 0:Nat):Int)-a)%q<q:=gT _ oO;have hd0:0<=(((xs.getD i 0:Nat):Int)-a)%q:=gK _ oO;generalize (((xs.getD i 0:Nat):Int)-a)%q=dz at*;obtain⟨dn,rfl⟩: ∃d:Nat,dz=d:=⟨dz.toNat,oO⟩;rw[Int.toNat_natCast]at d1⊢;have d2:=qk (a:=s) (b:=dn) (m:=q) oO oO hq q0;have lE:(tN (mb q p a)).length=n+1:=by rw[<-rE];exact rL n (ay _)
 have k1:=db lE;have k2:=eX (tN (mb q p a));have k3:=dJ lE;have k4:(aE (tN (mb q p a))).length=n+1:=by rw[bw,lE]
 generalize xs.getD i 0=xv at*;refine mw.w mixed call330 func330 rfl (nf.1 _ _ _ (by cbv)) (nf.2 _ _ (by cbv)) (obs:=[oR tL (.v (.sl ((tN p).map dr))),oR none (.v (N q)),oR none (.v (.sl (xs.map dr))),oR tI (.v (E i)),oR tA (.v (N s))]) (args:=[.v (N a), .p 0 0 0, .p 1 0 0, .p 2 0 0, .p 3 0 0, .p 4 0 0]) (fs:=[some (some (oR tL (.v (.sl ((tN (mb q p a)).map dr))))),none,none,none,some (some (oR tA (.v (N (s*dn%q)))))]) (j:=none) (nw:=none) (v:= .tup []) (ns:=[1017,1000,1001,1012,1018]) (obsA:=[oR tL (.v (.sl ((tN p).map dr))),oR none (.v (N q)),oR none (.v (.sl (xs.map dr))),oR tI (.v (E i)),oR tA (.v (N s))]) rfl ?_ (by simp) (by simp) rfl (by simp[bz,aF.aY,AV.aY,AV.aY.renL]) (by simp[bz,AV.aY,dP]) (by simp[AV.aY,AV.aY.renL]) (by simp[gY,outs,aF.aY,AV.aY,AV.aY.renL])
 simp only[go_sem,seval];repeat' first|simp only[go_sem,seval,lP,ht oT,fX]|refine oE ?_|apply xX<;>intro hc
 refine af (α:=Nat) (fun j=>n-j) (fun j=>⟨[(0, .v (N a)),(1, .p 0 0 0),(2, .p 1 0 0),(3, .p 2 0 0),(4, .p 3 0 0),(5, .p 4 0 0),(7, .rs 1003 0 0 (n+1) 1),(18, .v (.sl ((tN p).map dr))),(19,E' n),(20,E' j)],[(0,oR tL (.v (.sl ((tN p).map dr)))),(1,oR none (.v (N q))),(2,oR none (.v (.sl (xs.map dr)))),(3,oR tI (.v (E i))),(4,oR tA (.v (N s))),(1003,⟨0,aE (tN (jt q p a j)),false,none⟩)],_⟩) (fun j=>j<=n) 0 (fun _=>ay _) (aJ _) ?_ ?_
 ·rw[r0];refine lG ?_;all_goals exact fun c hc=>dZ hc
 ·intro j hj R hR
  by_cases hlt:j<n
  ·have hgo:=hR (j+1) oO oO;have e1:=BP p (i:=j) oO;have hrm:=rM j;have hrn:=rN j hlt;have hra:=rA j oO;have hrs:=rS j hlt;have hrl:=rL j oO;rw[<-hrs,hrm]at hgo;obtain⟨c,hc⟩:=jV (hin j);have hcq:=(hin j).2;obtain⟨v,hv⟩:=jV (x:=(0::p).getD j 0) (q:=q) (by
    cases j with
    |zero=>exact⟨mG _,by simp;omega⟩
    |succ j=>exact hin j)
   have hvq:v<q:=by
    have:(0::p).getD j 0<(q:Int):=by
     cases j with
     |zero=>simp;omega
     |succ j=>exact(hin j).2
    omega
   rw[hc]at hcq e1 hgo;rw[hv]at hra hgo;rw[Int.toNat_natCast]at e1 hra hgo;have m1:=BW (a:=0) (b:=c) (m:=q) oC oO hq q0;rw[dq,bY oO]at m1;have m2:=qk (a:=c) (b:=a) (m:=q) oO ha hq q0;have m3:=IS (a:=v) (b:=c*a%q) (m:=q) oO (by have:=aL (c*a) q0;omega) hq q0
   rw[show(((c*a%q:Nat):Int))=(c:Int)*a%q by push_cast;rfl]at m3
   generalize (((v:Int)-(c:Int)*a%q)%q).toNat=z at*;have ht1: ∀ _:True,((j:Int)+1).toNat=j+1:=fun _=>oO
   generalize tN (jt q p a j)=R0 at*;have g0:(aE R0).length=n+1:=by rw[bw,hrl]
   have g1:(aE R0).getD (j+1) .u= .v (N 0):=by rw[fW oO,hrn]
   have g2:List.take (j+1) (aE R0)++[AV.v (.s (aX c))]++List.drop (j+1+1) (aE R0)=aE (R0.set (j+1) c):=ec oO;have g3:(aE (R0.set (j+1) c)).getD j .u= .v (N v):=by
    rw[fW (by rw[ft];omega),<-hra]
    simp[bu,nS]
   have g4:(aE (R0.set (j+1) c)).length=n+1:=by rw[bw,ft,hrl]
   have g5:List.take j (aE (R0.set (j+1) c))++[AV.v (.s (aX z))]++List.drop (j+1) (aE (R0.set (j+1) c))=aE ((R0.set (j+1) c).set j z):=ec (by rw[ft];omega)
   clear hR rM rN rA rS rL d1 d2 k1 k2 k3 k4 r0 rE hin;refine wI (aN @lP (aN @e1 (aN (ht1 oT) (aN @g0 (aN @g1 (aN @g2 (aN @g3 (aN @g4 @g5)))))))) @m1 @m2 @m3 oT ?_;refine hgo _ ?_;refine lG ?_;all_goals exact fun c hc=>dZ hc
  ·obtain rfl:j=n:=oO;rw[rE];clear hR rM rN rA rS rL;repeat' first|simp only[go_sem,seval,true_or,or_true,false_or,or_false,aj,kB,fK,jo,ic,ie,fM,rm,rZ,iG,jO,eV,aU,AV.aY,AV.aY.renL,aM,lP,e3,k1,k2,k3,k4,dC]|refine cP d1 ?_|refine cP d2 ?_|refine oE ?_|apply xX<;>intro hc
   all_goals trivial
theorem SH (nm:Nat) (hq:q<(2^64)) (h1:1<q) (hx: ∀a∈xs,a<(2^64)) (hi:i<xs.length) (hxl:xs.length<1000000) (ha:a<(2^64)) {p:List Int} (hp:p≠[]) (hin:LH q p) (hpl:p.length<1000000) {s:Nat} (hs:s<q):
  mw prog 330 nm [(1017,oR tL (.fs ((tN p).map dr))),(1000,oR none (.v (N q))),(1001,oR none (.v (.sl (xs.map dr)))),(1012,oR tI (.v (E i))),(1018,oR tA (.v (N s)))] [.v (N a), .p 1017 0 0, .p 1000 0 0, .p 1001 0 0, .p 1012 0 0, .p 1018 0 0] (.tup []) [(1017,some (oR tL (.v (.sl ((tN (mb q p a)).map dr))))),(1018,some (oR tA (.v (N (s*((((xs.getD i 0:Nat):Int)-a)%q).toNat%q)))))]:=by
 have q0:0<q:=oO;obtain⟨n,hn⟩: ∃n,n=p.length:=⟨_,rfl⟩;have lP:(tN p).length=n:=by rw[ju,hn]
 have ht: ∀ _:True,((n:Int)+1).toNat=n+1:=fun _=>oO
 have r0:tN (jt q p a 0)=List.replicate (n+1) 0:=by rw[OB,hn];simp[tN]
 have rE:jt q p a n=mb q p a:=by rw[hn];exact FI hp hin
 have rL: ∀j,j<=n->(tN (jt q p a j)).length=n+1:=fun j hj=>by rw[ju,FJ oO,hn]
 have rS: ∀j,j<n->((tN (jt q p a j)).set (j+1) (p.getD j 0).toNat).set j ((mb q p a).getD j 0).toNat=tN (jt q p a (j+1)):=fun j hj=>by
  rw[pq,pq,Cl oO]
 have rN: ∀j,j<n->(tN (jt q p a j)).getD (j+1) 0=0:=fun j hj=>by rw[jY,Ck oO];rfl
 have rA: ∀j,j<=n->(tN (jt q p a j)).getD j 0=((0::p).getD j 0).toNat:=fun j hj=>by rw[jY,Jd oO]
 have rM:=fun j=>GY q a p j
 have e3:=o6 xs hi;have xi:=hx _ (aq 0 hi);have d1:=IS (a:=xs.getD i 0) (b:=a) (m:=q) xi ha hq q0;have hdl:(((xs.getD i 0:Nat):Int)-a)%q<q:=gT _ oO;have hd0:0<=(((xs.getD i 0:Nat):Int)-a)%q:=gK _ oO;generalize (((xs.getD i 0:Nat):Int)-a)%q=dz at*;obtain⟨dn,rfl⟩: ∃d:Nat,dz=d:=⟨dz.toNat,oO⟩;rw[Int.toNat_natCast]at d1⊢;have d2:=qk (a:=s) (b:=dn) (m:=q) oO oO hq q0;have lE:(tN (mb q p a)).length=n+1:=by rw[<-rE];exact rL n (ay _)
 have k1:=db lE;have k2:=eX (tN (mb q p a));have k3:=dJ lE;have k4:(aE (tN (mb q p a))).length=n+1:=by rw[bw,lE]
 generalize xs.getD i 0=xv at*;refine mw.w mixed call330 func330 rfl (nf.1 _ _ _ (by cbv)) (nf.2 _ _ (by cbv)) (obs:=[oR tL (.fs ((tN p).map dr)),oR none (.v (N q)),oR none (.v (.sl (xs.map dr))),oR tI (.v (E i)),oR tA (.v (N s))]) (args:=[.v (N a), .p 0 0 0, .p 1 0 0, .p 2 0 0, .p 3 0 0, .p 4 0 0]) (fs:=[some (some (oR tL (.v (.sl ((tN (mb q p a)).map dr))))),none,none,none,some (some (oR tA (.v (N (s*dn%q)))))]) (j:=none) (nw:=none) (v:= .tup []) (ns:=[1017,1000,1001,1012,1018]) (obsA:=[oR tL (.fs ((tN p).map dr)),oR none (.v (N q)),oR none (.v (.sl (xs.map dr))),oR tI (.v (E i)),oR tA (.v (N s))]) rfl ?_ (by simp) (by simp) rfl (by simp[bz,aF.aY,AV.aY,AV.aY.renL]) (by simp[bz,AV.aY,dP]) (by simp[AV.aY,AV.aY.renL]) (by simp[gY,outs,aF.aY,AV.aY,AV.aY.renL])
 simp only[go_sem,seval];repeat' first|simp only[go_sem,seval,lP,ht oT,fX]|refine oE ?_|apply xX<;>intro hc
 refine af (α:=Nat) (fun j=>n-j) (fun j=>⟨[(0, .v (N a)),(1, .p 0 0 0),(2, .p 1 0 0),(3, .p 2 0 0),(4, .p 3 0 0),(5, .p 4 0 0),(7, .rs 1003 0 0 (n+1) 1),(18, .fs ((tN p).map dr)),(19,E' n),(20,E' j)],[(0,oR tL (.fs ((tN p).map dr))),(1,oR none (.v (N q))),(2,oR none (.v (.sl (xs.map dr)))),(3,oR tI (.v (E i))),(4,oR tA (.v (N s))),(1003,⟨0,aE (tN (jt q p a j)),false,none⟩)],_⟩) (fun j=>j<=n) 0 (fun _=>ay _) (aJ _) ?_ ?_
 ·rw[r0];refine lG ?_;all_goals exact fun c hc=>dZ hc
 ·intro j hj R hR
  by_cases hlt:j<n
  ·have hgo:=hR (j+1) oO oO;have e1:=BP p (i:=j) oO;have hrm:=rM j;have hrn:=rN j hlt;have hra:=rA j oO;have hrs:=rS j hlt;have hrl:=rL j oO;rw[<-hrs,hrm]at hgo;obtain⟨c,hc⟩:=jV (hin j);have hcq:=(hin j).2;obtain⟨v,hv⟩:=jV (x:=(0::p).getD j 0) (q:=q) (by
    cases j with
    |zero=>exact⟨mG _,by simp;omega⟩
    |succ j=>exact hin j)
   have hvq:v<q:=by
    have:(0::p).getD j 0<(q:Int):=by
     cases j with
     |zero=>simp;omega
     |succ j=>exact(hin j).2
    omega
   rw[hc]at hcq e1 hgo;rw[hv]at hra hgo;rw[Int.toNat_natCast]at e1 hra hgo;have m1:=BW (a:=0) (b:=c) (m:=q) oC oO hq q0;rw[dq,bY oO]at m1;have m2:=qk (a:=c) (b:=a) (m:=q) oO ha hq q0;have m3:=IS (a:=v) (b:=c*a%q) (m:=q) oO (by have:=aL (c*a) q0;omega) hq q0
   rw[show(((c*a%q:Nat):Int))=(c:Int)*a%q by push_cast;rfl]at m3
   generalize (((v:Int)-(c:Int)*a%q)%q).toNat=z at*;have ht1: ∀ _:True,((j:Int)+1).toNat=j+1:=fun _=>oO
   generalize tN (jt q p a j)=R0 at*;have g0:(aE R0).length=n+1:=by rw[bw,hrl]
   have g1:(aE R0).getD (j+1) .u= .v (N 0):=by rw[fW oO,hrn]
   have g2:List.take (j+1) (aE R0)++[AV.v (.s (aX c))]++List.drop (j+1+1) (aE R0)=aE (R0.set (j+1) c):=ec oO;have g3:(aE (R0.set (j+1) c)).getD j .u= .v (N v):=by
    rw[fW (by rw[ft];omega),<-hra]
    simp[bu,nS]
   have g4:(aE (R0.set (j+1) c)).length=n+1:=by rw[bw,ft,hrl]
   have g5:List.take j (aE (R0.set (j+1) c))++[AV.v (.s (aX z))]++List.drop (j+1) (aE (R0.set (j+1) c))=aE ((R0.set (j+1) c).set j z):=ec (by rw[ft];omega)
   clear hR rM rN rA rS rL d1 d2 k1 k2 k3 k4 r0 rE hin;refine wI (aN @lP (aN @e1 (aN (ht1 oT) (aN @g0 (aN @g1 (aN @g2 (aN @g3 (aN @g4 @g5)))))))) @m1 @m2 @m3 oT ?_;refine hgo _ ?_;refine lG ?_;all_goals exact fun c hc=>dZ hc
  ·obtain rfl:j=n:=oO;rw[rE];clear hR rM rN rA rS rL;repeat' first|simp only[go_sem,seval,true_or,or_true,false_or,or_false,aj,kB,fK,jo,ic,ie,fM,rm,rZ,iG,jO,eV,aU,AV.aY,AV.aY.renL,aM,lP,e3,k1,k2,k3,k4,dC]|refine cP d1 ?_|refine cP d2 ?_|refine oE ?_|apply xX<;>intro hc
   all_goals trivial
noncomputable def fN (q:Nat) (xs ys:List Nat) (k:Nat):Int:=((ys.getD k 0*fR (wZ q (xs.getD k 0:Nat) ((nI xs).eraseIdx k)).toNat q%q:Nat):Int)
noncomputable def sD (q:Nat) (xs ys:List Nat):List Nat:=tN (Lp q (nI xs) (fN q xs ys))
theorem XM:(tN [1]).map dr=[PV.s [1]]:=congrArg (fun b=>[PV.s b]) (by decide:aX 1=[1])
theorem F3 (hq:q<(2^64)) (h1:1<q) (hx: ∀a∈xs,a<(2^64)) (hy: ∀a∈ys,a<(2^64)) (hl:ys.length=xs.length) (hxl:xs.length<1000000) (hg: ∀i,i<xs.length->Nat.gcd (wZ q (xs.getD i 0:Nat) ((nI xs).eraseIdx i)).toNat q=1):aD 215 [N q, .sl (xs.map dr), .sl (ys.map dr)] (.sl ((sD q xs ys).map dr)):=by
 have q0:0<q:=oO;obtain⟨n,hn⟩: ∃n,n=xs.length:=⟨_,rfl⟩;have lX:xs.length=n:=hn.symm;have lY:ys.length=n:=by rw[hl,hn]
 have lI:(nI xs).length=n:=by rw[sf,hn]
 obtain⟨P,hP⟩: ∃P:Nat->List Int,P=fun k=>Bm q ((nI xs).eraseIdx k):=⟨_,rfl⟩
 obtain⟨f,hf⟩: ∃f:Nat->Int,f=fN q xs ys:=⟨_,rfl⟩;have hT:sD q xs ys=tN (fz q P f n n 0):=by
  unfold sD;rw[<-lI,hP,Fk,hf]
 rw[hT];have r0:tN (fz q P f n 0 0)=List.replicate n 0:=by rw[NY];simp[tN]
 have rl: ∀i,(tN (fz q P f n i 0)).length=n:=fun i=>by rw[ju,lZ]
 clear hT;refine eW call215 func215 ?_;repeat' first|simp only[go_sem,seval,lX,fX]|refine oE ?_|apply xX<;>intro hc
 refine af (α:=Nat) (fun i=>n-i) (fun i=>⟨[(2, .v (.sl (ys.map dr))),(3, .p 1000 0 0),(4, .p 1001 0 0),(7, .rs 1005 0 0 n 1),(25, .v (.sl (xs.map dr))),(26,E' n),(27,E' i)],[(1000,oR none (.v (N q))),(1001,oR none (.v (.sl (xs.map dr)))),(1005,⟨0,aE (tN (fz q P f n i 0)),false,none⟩)],_⟩) (fun i=>i<=n) 0 (fun _=>ay _) (aJ _) ?_ ?_
 ·rw[r0];refine lG ?_;all_goals exact fun c hc=>dZ hc
 ·intro i hi Ro hRo
  by_cases hlt:i<n
  ·have hi':i<xs.length:=oO;obtain⟨x,hxi⟩: ∃x:Nat,x=xs.getD i 0:=⟨_,rfl⟩;obtain⟨L,hL⟩: ∃L:List Int,L=nI xs:=⟨_,rfl⟩;have hgi:=hg i hi';rw[<-hL,<-hxi]at hgi;have hfi0:f i=((ys.getD i 0*fR (wZ q x (L.eraseIdx i)).toNat q%q:Nat):Int):=by rw[hf,hL,hxi];rfl
   have hpi:P i=Bm q (L.eraseIdx i):=by rw[hP,hL]
   repeat' first|simp only[go_sem,seval,lX]|refine cP sQ ?_|refine oE ?_|apply xX<;>intro hc
   refine af (α:=Nat×Bool) (fun s=>n-s.1) (fun s=>match s with|(k,true)=>⟨[(2, .v (.sl (ys.map dr))),(3, .p 1000 0 0),(4, .p 1001 0 0),(7, .rs 1005 0 0 n 1),(25, .v (.sl (xs.map dr))),(26,E' n),(27,E' i),(8, .p 1012 0 0),(9, .p 1017 0 0),(10, .p 1018 0 0),(11, .fn (.func 330) [] [.p 1017 0 0, .p 1000 0 0, .p 1001 0 0, .p 1012 0 0, .p 1018 0 0]),(34, .v (.sl (xs.map dr))),(35,E' n),(36,E' k)],[(1000,oR none (.v (N q))),(1001,oR none (.v (.sl (xs.map dr)))),(1005,⟨0,aE (tN (fz q P f n i 0)),false,none⟩),(1012,oR tI (.v (E i))),(1017,oR tL (.v (.sl ((tN (Bm q (pO L i k))).map dr)))),(1018,oR tA (.v (N (wZ q x (pO L i k)).toNat)))],1026⟩|(k,false)=>⟨[(2, .v (.sl (ys.map dr))),(3, .p 1000 0 0),(4, .p 1001 0 0),(7, .rs 1005 0 0 n 1),(25, .v (.sl (xs.map dr))),(26,E' n),(27,E' i),(8, .p 1012 0 0),(9, .p 1017 0 0),(10, .p 1018 0 0),(11, .fn (.func 330) [] [.p 1017 0 0, .p 1000 0 0, .p 1001 0 0, .p 1012 0 0, .p 1018 0 0]),(34, .v (.sl (xs.map dr))),(35,E' n),(36,E' k)],[(1000,oR none (.v (N q))),(1001,oR none (.v (.sl (xs.map dr)))),(1005,⟨0,aE (tN (fz q P f n i 0)),false,none⟩),(1012,oR tI (.v (E i))),(1017,oR tL (.fs [.s [1]])),(1018,oR tA (.v (.s [1])))],1026⟩) (fun s=>s.1<=n/\(s.2=false->pO L i s.1=[])) (0,false) (fun s=>by obtain⟨k,b⟩:=s;cases b<;>exact bZ rfl) ⟨aJ _,fun _=>ML _ _⟩ ?_ ?_
   ·refine lG ?_;all_goals exact fun c hc=>dZ hc
   ·rintro⟨k,b⟩ ⟨hk,hb⟩ R hR;simp only at hk hb
    by_cases hkn:k<n
    ·by_cases hki:k=i
     ·have hex:pO L i (k+1)=pO L i k:=by rw[hki];exact MM (by rw[hL];omega)
      have hgo:=hR (k+1,b) ⟨by show k+1<=n;omega,fun h=>by show pO L i (k+1)=[];rw[hex];exact hb h⟩ (by show n-(k+1)<n-k;omega)
      have e2:=o6 xs (i:=k) oO;clear hR hRo hg
      cases b<;>simp only[hex]at hgo<;>clear hb hex hgi hfi0 hpi
      ·refine dH (aN @lX @e2) ?_;refine hgo _ ?_;refine lG ?_;all_goals exact fun c hc=>dZ hc
      ·refine dH (aN @lX @e2) ?_;refine hgo _ ?_;refine lG ?_;all_goals exact fun c hc=>dZ hc
     ·have hex:pO L i (k+1)=pO L i k++[((xs.getD k 0:Nat):Int)]:=by rw[MN (by rw[hL];omega) hki,hL,tH]
      have hgo:=hR (k+1,true) ⟨by show k+1<=n;omega,fun h=>by cases h⟩ (by show n-(k+1)<n-k;omega)
      simp only[hex,E9,FO]at hgo;have e2:=o6 xs (i:=k) oO;have xk:=hx _ (aq 0 (show k<xs.length by omega))
      have hnki: ¬((k:Int)=(i:Int)):=oO;clear hR hRo hg hgi hfi0 hpi;cases b
      ·have he:=hb rfl;rw[he]at hgo;have hc:=fun nm=>SH nm hq h1 hx hi' hxl xk (p:=[1]) (by simp) (NX oO) oC (s:=1) h1
       rw[XM,<-hxi]at hc;rw[show N 1= .s [1]from congrArg PV.s (by decide:aX 1=[1])]at hc
       have hs1:(wZ q x []*((((x:Nat):Int)-(xs.getD k 0:Nat))%q)%q).toNat=1*((((x:Nat):Int)-(xs.getD k 0:Nat))%q).toNat%q:=by
        obtain⟨d,hd⟩:=jV (q:=(q:Int)) ⟨gK (((x:Nat):Int)-(xs.getD k 0:Nat)) oO,gT _ oO⟩;rw[hd,Int.toNat_natCast,show wZ q x []=((1:Nat):Int)from rfl,<-Int.natCast_mul,<-Int.natCast_emod,Int.toNat_natCast]
       rw[hs1,show Bm q []=[1]from rfl]at hgo
       generalize xs.getD k 0=y at*;generalize 1*((((x:Nat):Int)-y)%q).toNat%q=s2 at*;generalize mb q [1] y=p2 at*;clear hb he;repeat' first|simp only[go_sem,seval,lX,e2]|(refine cd (hc _) (by simp[az]) ?_)|refine oE ?_|apply xX<;>intro hc
       refine hgo _ ?_;refine lG ?_;all_goals exact fun c hc=>dZ hc
      ·have hsi:=wz (q:=(q:Int)) oO x (pO L i k);obtain⟨s0,hs0⟩:=jV hsi;have hc:=fun nm=>SI nm hq h1 hx hi' hxl xk (p:=Bm q (pO L i k)) (by intro h;have:=Da q (pO L i k);rw[h]at this;simp at this) (C9 oO _) (by rw[Da];unfold pO;have:=List.length_eraseIdx_le (L.take k) i;have:=List.length_take_le k L;omega) (s:=s0) oO
       rw[<-hxi]at hc;have hs1:(wZ q x (pO L i k)*((((x:Nat):Int)-(xs.getD k 0:Nat))%q)%q).toNat=s0*((((x:Nat):Int)-(xs.getD k 0:Nat))%q).toNat%q:=by
        obtain⟨d,hd⟩:=jV (q:=(q:Int)) ⟨gK (((x:Nat):Int)-(xs.getD k 0:Nat)) oO,gT _ oO⟩;rw[hs0,hd,Int.toNat_natCast,<-Int.natCast_mul,<-Int.natCast_emod,Int.toNat_natCast]
       rw[hs1]at hgo;simp only[hs0,Int.toNat_natCast];generalize xs.getD k 0=y at*;generalize s0*((((x:Nat):Int)-y)%q).toNat%q=s2 at*;generalize Bm q (pO L i k)=p1 at*;generalize mb q p1 y=p2 at*;clear hb hsi hs0 hs1 hex;repeat' first|simp only[go_sem,seval,lX,e2]|(refine cd (hc _) (by simp[az]) ?_)|refine oE ?_|apply xX<;>intro hc
       refine hgo _ ?_;refine lG ?_;all_goals exact fun c hc=>dZ hc
    ·obtain rfl:n=k:=oO;have hend:pO L i n=L.eraseIdx i:=by have:=Ix L i;rwa[show L.length=n by rw[hL];exact lI]at this
     rw[hend]at hb;have e4:=o6 ys (i:=i) oO;have yi:=hy _ (aq 0 (show i<ys.length by omega))
     generalize ys.getD i 0=y at*;obtain⟨p,hpd⟩: ∃p,p=Bm q (L.eraseIdx i):=⟨_,rfl⟩;have hpp:p=P i:=by rw[hpd,hpi]
     have hin:LH q p:=by rw[hpd];exact C9 oO _
     have hpl:p.length=n:=by rw[hpd,Da,List.length_eraseIdx,ah (by rw[hL];omega),hL,lI];omega
     have lP:(tN p).length=n:=by rw[ju,hpl]
     obtain⟨s0,hs0⟩:=jV (wz (q:=(q:Int)) oO x (L.eraseIdx i));have hsq:=(wz (q:=(q:Int)) oO x (L.eraseIdx i)).2;rw[hs0,Int.toNat_natCast]at hgi hfi0;rw[hs0]at hsq;have iv:=rJ (a:=s0) (m:=q) oO hq q0 hgi;have ivl:fR s0 q<q:=(gL q0 hgi).inv.1;have m0:=qk (a:=y) (b:=fR s0 q) (m:=q) yi oO hq q0;obtain⟨fi,hfi1⟩: ∃fi,fi=y*fR s0 q%q:=⟨_,rfl⟩;have hfiq:fi<q:=by rw[hfi1];exact aL _ q0
     rw[<-hfi1]at hfi0 m0;have hfi:f i=(fi:Int):=hfi0;have hgl:=hg;clear hR hg hfi0 hfi1;cases b
     ·have he:=hb rfl;rw[he]at hpd hs0;have hp1:p=[1]:=hpd;have hs1:s0=1:=by have:wZ (q:Int) x []=1:=rfl;omega
      rw[hs1,show N 1= .s [1]from congrArg PV.s (by decide:aX 1=[1])]at iv
      rw[hs1]at m0;have hpq:([PV.s [1]]:List PV)=(tN p).map dr:=by rw[hp1,XM]
      have l1:([PV.s [1]]:List PV).length=n:=by rw[hpq,aB];exact lP
      simp only[List.length_cons,List.length_nil]at l1;clear hpd hs0 hs1 hgi he hb;simp only[hpq];repeat' first|simp only[go_sem,seval,lX,lY,lP,e4]|refine cP iv ?_|refine cP m0 ?_|refine oE ?_|apply xX<;>intro hc
      refine af (α:=Nat) (fun j=>n-j) (fun j=>⟨[(2, .v (.sl (ys.map dr))),(3, .p 1000 0 0),(4, .p 1001 0 0),(7, .rs 1005 0 0 n 1),(25, .v (.sl (xs.map dr))),(26,E' n),(27,E' i),(16, .v (N fi)),(64, .fs ((tN p).map dr)),(65,E' n),(66,E' j)],[(1000,oR none (.v (N q))),(1001,oR none (.v (.sl (xs.map dr)))),(1005,⟨0,aE (tN (fz q P f n i j)),false,none⟩)],1050⟩) (fun j=>j<=n) 0 (fun _=>bZ rfl) (aJ _) ?_ ?_
      ·refine lG ?_;all_goals exact fun c hc=>dZ hc
      ·intro j hj R hR
       by_cases hjn:j<n
       ·have hgo:=hR (j+1) oO oO;have e5:=BP p (i:=j) oO;have ho1:(tN (fz q P f n i j)).getD j 0=(Be q P f j i).toNat:=by rw[jY,Dd hjn]
        have ho2:(tN (fz q P f n i j)).set j (Be q P f j (i+1)).toNat=tN (fz q P f n i (j+1)):=by rw[pq,vV hjn]
        have hol:(tN (fz q P f n i j)).length=n:=by rw[ju,lZ]
        rw[<-ho2]at hgo;obtain⟨a0,ha0⟩:=jV (rO (q:=(q:Int)) oO P f j i);have ha0q:=(rO (q:=(q:Int)) oO P f j i).2;have hstep:Be q P f j (i+1)=(Be q P f j i+p.getD j 0*f i%q)%q:=by rw[hpp];rfl
        obtain⟨c,hc⟩:=jV (hin j);have hcq:=(hin j).2;rw[hc]at hcq e5 hstep;rw[ha0]at ho1 ha0q hstep;rw[hfi,show((a0:Int)+(c:Int)*(fi:Int)%q)%q=(((a0+c*fi%q)%q:Nat):Int) by push_cast;rfl]at hstep
        rw[hstep]at hgo;rw[Int.toNat_natCast]at e5 ho1 hgo;have m1:=qk (a:=c) (b:=fi) (m:=q) oO oO hq q0;have m2:=BW (a:=a0) (b:=c*fi%q) (m:=q) oO (by have:=aL (c*fi) q0;omega) hq q0
        generalize (a0+c*fi%q)%q=z at*;generalize tN (fz q P f n i j)=R0 at*;have g0:(aE R0).length=n:=by rw[bw,hol]
        have g1:(aE R0).getD j .u= .v (N a0):=by rw[fW oO,ho1]
        have g2:List.take j (aE R0)++[AV.v (.s (aX z))]++List.drop (j+1) (aE R0)=aE (R0.set j z):=ec oO;clear hR hRo hgl hstep ho2;refine pV (aN @lX (aN @lP (aN @e5 (aN @g0 (aN @g1 @g2))))) @m1 @m2 ?_;refine hgo _ ?_;refine lG ?_;all_goals exact fun c hc=>dZ hc
       ·obtain rfl:j=n:=oO;rw[vU];have hgo:=hRo (i+1) oO oO;clear hR hRo;refine dH (aN @lX @lP) ?_;refine hgo _ ?_;refine lG ?_;all_goals exact fun c hc=>dZ hc
     ·simp only[hend,<-hpd,hs0,Int.toNat_natCast];clear hpd hs0 hgi hb;repeat' first|simp only[go_sem,seval,lX,lY,lP,e4]|refine cP iv ?_|refine cP m0 ?_|refine oE ?_|apply xX<;>intro hc
      refine af (α:=Nat) (fun j=>n-j) (fun j=>⟨[(2, .v (.sl (ys.map dr))),(3, .p 1000 0 0),(4, .p 1001 0 0),(7, .rs 1005 0 0 n 1),(25, .v (.sl (xs.map dr))),(26,E' n),(27,E' i),(16, .v (N fi)),(64, .v (.sl ((tN p).map dr))),(65,E' n),(66,E' j)],[(1000,oR none (.v (N q))),(1001,oR none (.v (.sl (xs.map dr)))),(1005,⟨0,aE (tN (fz q P f n i j)),false,none⟩)],1050⟩) (fun j=>j<=n) 0 (fun _=>bZ rfl) (aJ _) ?_ ?_
      ·refine lG ?_;all_goals exact fun c hc=>dZ hc
      ·intro j hj R hR
       by_cases hjn:j<n
       ·have hgo:=hR (j+1) oO oO;have e5:=BP p (i:=j) oO;have ho1:(tN (fz q P f n i j)).getD j 0=(Be q P f j i).toNat:=by rw[jY,Dd hjn]
        have ho2:(tN (fz q P f n i j)).set j (Be q P f j (i+1)).toNat=tN (fz q P f n i (j+1)):=by rw[pq,vV hjn]
        have hol:(tN (fz q P f n i j)).length=n:=by rw[ju,lZ]
        rw[<-ho2]at hgo;obtain⟨a0,ha0⟩:=jV (rO (q:=(q:Int)) oO P f j i);have ha0q:=(rO (q:=(q:Int)) oO P f j i).2;have hstep:Be q P f j (i+1)=(Be q P f j i+p.getD j 0*f i%q)%q:=by rw[hpp];rfl
        obtain⟨c,hc⟩:=jV (hin j);have hcq:=(hin j).2;rw[hc]at hcq e5 hstep;rw[ha0]at ho1 ha0q hstep;rw[hfi,show((a0:Int)+(c:Int)*(fi:Int)%q)%q=(((a0+c*fi%q)%q:Nat):Int) by push_cast;rfl]at hstep
        rw[hstep]at hgo;rw[Int.toNat_natCast]at e5 ho1 hgo;have m1:=qk (a:=c) (b:=fi) (m:=q) oO oO hq q0;have m2:=BW (a:=a0) (b:=c*fi%q) (m:=q) oO (by have:=aL (c*fi) q0;omega) hq q0
        generalize (a0+c*fi%q)%q=z at*;generalize tN (fz q P f n i j)=R0 at*;have g0:(aE R0).length=n:=by rw[bw,hol]
        have g1:(aE R0).getD j .u= .v (N a0):=by rw[fW oO,ho1]
        have g2:List.take j (aE R0)++[AV.v (.s (aX z))]++List.drop (j+1) (aE R0)=aE (R0.set j z):=ec oO;clear hR hRo hgl hstep ho2;refine pV (aN @lX (aN @lP (aN @e5 (aN @g0 (aN @g1 @g2))))) @m1 @m2 ?_;refine hgo _ ?_;refine lG ?_;all_goals exact fun c hc=>dZ hc
       ·obtain rfl:j=n:=oO;rw[vU];have hgo:=hRo (i+1) oO oO;clear hR hRo;refine dH (aN @lX @lP) ?_;refine hgo _ ?_;refine lG ?_;all_goals exact fun c hc=>dZ hc
  ·obtain rfl:i=n:=oO;have k1:=db (rl i);have k2:=eX (tN (fz q P f i i 0));have k3:=dJ (rl i);have k4:(aE (tN (fz q P f i i 0))).length=i:=by rw[bw,rl]
   clear hRo;repeat' first|simp only[go_sem,seval,lX,k1,k2,k3,k4,dC]|refine oE ?_|apply xX<;>intro hc
   all_goals trivial
noncomputable def GQ (q:Nat) (xs ys:List Nat) (x:Nat):Nat:=(xG q (nI (sD q xs ys)) x).toNat
theorem zE (h:fj q=true):2<=q:=(r8 h).1
theorem Jm (h0:0<q) (xs ys:List Nat): ∀c∈sD q xs ys,c<q:=by
 intro c hc;unfold sD at hc;obtain⟨z,hz,rfl⟩:=bG.1 hc;unfold Lp at hz;obtain⟨j,-,rfl⟩:=bG.1 hz;have:=rO (q:=(q:Int)) oO (fun k=>Bm q ((nI xs).eraseIdx k)) (fN q xs ys) j (nI xs).length
 omega
theorem F7 (q:Nat) (xs ys:List Nat):(sD q xs ys).length=xs.length:=by rw[sD,ju,Lp,aB,pD,sf]
theorem HG (hq:q<(2^64)) (hp:fj q=true) {x:Nat} (hl:ys.length=xs.length) (h256:xs.length<=256) (hx: ∀a∈xs,a<q) (hy: ∀a∈ys,a<q) (ha:x<q) (hd:xs.Nodup) (hg: ∀i,i<xs.length->Nat.gcd (wZ q (xs.getD i 0:Nat) ((nI xs).eraseIdx i)).toNat q=1):
  aD 102 [N q, .sl (xs.map dr), .sl (ys.map dr),N x] (.tup [N (GQ q xs ys x),E 0]):=by
 have h2:=zE hp;have h1:=HI hq hp hl h256 hx hy ha hd;have h3:=F3 hq oO (fun a h=>by have:=hx a h;omega) (fun a h=>by have:=hy a h;omega) hl oO hg
 have h4:=Cs hq oO (cs:=sD q xs ys) (fun c hc=>by have:=Jm oO xs ys c hc;omega) (x:=x) oO (by rw[F7];omega)
 unfold GQ;refine eW call102 func102 ?_;exact z4 @h1 @h3 @h4 oT
def lU (vs:List Bytes) (sd:Bytes) (n:Bytes):Nat->Nat->List Bytes->Except Int (List Bytes)
 |0,_,acc=> .ok acc
 |k+1,i,acc=>match gb vs sd i n with
  | .error e=> .error e
  | .ok x=>lU vs sd n k (i+1) (acc++[x])
def zO (vs:List Bytes) (sd:Bytes) (i:Nat):Except Int (List Bytes)->PV
 | .ok l=> .tup [.sl (l.map .s),T vs sd (i:Nat),E 0]
 | .error e=> .tup [.sl [],T [] [] 0,E e]
theorem zm (h:gb vs sd i n= .error e):e=2\/e=14:=mI h
theorem E7 (hv:vs.all aa=true) (hn:aa n=true) (hl:vs.length<1000000): ∀{k i:Nat} {acc l:List Bytes},i<=2147483647->(∀x∈acc,aa x=true/\num x<num n)->lU vs sd n k i acc= .ok l->l.length=acc.length+k/\(∀x∈l,aa x=true/\num x<num n)/\i+k<=2147483647
 |0,i,acc,l,hi,ha,h=>by
  injection h with h;subst h;exact⟨rfl,ha,hi⟩
 |k+1,i,acc,l,hi,ha,h=>by
  rw[lU]at h
  split at h
  ·cases h
  ·rename_i x hx;obtain⟨d1,d2,d3⟩:=gG hv hn hl hi hx;obtain⟨a1,a2,a3⟩:=E7 hv hn hl d3 (acc:=acc++[x]) (fun y hy=>by
    rcases il.1 hy with hy|hy
    ·exact ha y hy
    ·rw[dt.1 hy];exact⟨d1,d2⟩) h
   exact⟨by rw[a1,bJ];simp;omega,a2,oO⟩
theorem E6 {k:Nat} (hv:vs.all aa=true) (hn:aa n=true) (h0:n≠[]) (hi:i<=2147483647) (hk:k<=4096) (hl:vs.length<1000000) (hsd:sd.length<1000000):aD 66 [T vs sd i, .s n,E k] (zO vs sd (i+k) (lU vs sd n k i [])):=by
 have h1:=tW vs sd i n oO;rw[Ht hv hn h0 hi]at h1;have hd:=fun(j:Nat) (hj:j<=2147483647)=>zk (sd:=sd) hv hn (vP hn h0) hj hl hsd
 obtain⟨R,hR0⟩: ∃R,R=lU vs sd n k i []:=⟨_,rfl⟩;rw[<-hR0]
 cases k with
 |zero=>
  rw[hR0];simp only[lU,zO];refine eW call66 func66 ?_;exact TK @h1
 |succ k=>
  have d1:=hd i hi;rw[lU]at hR0;have hk4: ∀ _:True,decide ((4096:Int)<((k+1:Nat):Int))=false:=fun _=>aH oO
  cases hx:gb vs sd i n with
  |error e=>
   rw[hx]at d1 hR0;simp only at hR0;rw[hR0];have he:=zm hx;simp only[jS,zO]at d1⊢;clear hR0 hd hx hv hn;refine eW call66 func66 ?_;refine WH @h1 ?_;refine ai ?_;exact z1 @d1
  |ok x=>
   rw[hx]at d1 hR0;simp only at hR0;obtain⟨v1,v2,hi2⟩:=gG hv hn hl hi hx;simp only[jS]at d1;refine eW call66 func66 ?_;refine WH @h1 ?_;refine ai ?_;refine WH @d1 ?_;refine af (α:=Nat×List Bytes) (fun s=>k-s.1) (fun s=>⟨[(1, .v (.s n)),(3, .p 1000 0 0),(7, .p 1002 0 0),(10, .rs 1036 s.1 0 (s.1+1) 1),(28,E' (k+1)),(29,E' (s.1+1))],[(1000,⟨0,[.v (.sl (vs.map .s)), .v (.s sd), .v (.i .i64 ((i+(s.1+1):Nat):Int))],false,none⟩),(1002,⟨0,[.sn, .v (.s []), .v (.i .i64 0)],false,some 37⟩),(1036,⟨s.1,bj PV.s s.2,true,some 22⟩)],1042⟩) (fun s=>s.1<=k/\s.2.length=s.1+1/\i+(s.1+1)<=2147483647/\R=lU vs sd n (k-s.1) (i+(s.1+1)) s.2) (0,[x]) (fun _=>bZ rfl) ⟨aJ _,rfl,hi2,hR0⟩ ?_ ?_
   ·show AS.Le _ _;simp only[bj,eD,uI,PV.cells,kf,br,bK];exact lE
   ·rintro⟨j,acc⟩ ⟨hj,hal,hij,hRj⟩ Q hQ;simp only at hj hal hij hRj;have q1:=cz dY.s acc;have q2:=cM dY.s acc;rw[hal,dN]at q1 q2;have dj:=hd (i+(j+1)) hij
    by_cases hlt:j<k
    ·rw[show k-j=(k-(j+1))+1 by omega,lU]at hRj
     cases hy:gb vs sd (i+(j+1)) n with
     |error e=>
      rw[hy]at dj hRj;simp only at hRj;rw[hRj];have he:=zm hy;simp only[jS,zO]at dj⊢;clear hRj hQ hd hy hx hv hn hR0 d1;exact z1 @dj
     |ok y=>
      rw[hy]at dj hRj;simp only at hRj;obtain⟨w1,w2,w3⟩:=gG hv hn hl hij hy;have hgo:=hQ (j+1,acc++[y]) ⟨by show j+1<=k;omega,by simp[hal],by show i+(j+1+1)<= _;omega,by show R=lU vs sd n (k-(j+1)) (i+(j+1+1)) (acc++[y]);rw[hRj];rfl⟩ (by show k-(j+1)<k-j;omega)
      simp only[cf]at hgo;simp only[jS]at dj;clear hRj hQ hd hy hx hv hn hR0 d1;refine kz (aN @q1 @q2) @dj ?_;refine hgo _ ?_;refine lG ?_;all_goals exact⟨oO,rfl,fun c hc=>by
       rcases hc with hc|⟨a,ha,rfl⟩
       ·exact cR hc
       ·simp[PV.cells]at ha;subst ha;rfl⟩
    ·obtain rfl:j=k:=oO;rw[fA,lU]at hRj;rw[hRj];simp only[zO];have q3:=ff dY.s acc;have q4:chunk 1 (j+1) (acc.flatMap fun x=>[PV.s x])=acc.map .s:=by rw[<-hal];exact dD dY.s acc
     clear hRj hQ hd hx hv hn hR0 d1;exact gn (aN @q1 (aN @q2 (aN @q3 (aN @q4 @fk))))
theorem vK: ∀{k i:Nat} {acc:List Bytes},lU vs sd n k i acc= .error e->e=2\/e=14
 |0,i,acc,h=>by cases h
 |k+1,i,acc,h=>by
  rw[lU]at h
  split at h
  ·rename_i e' he;injection h with h;subst h
   exact zm he
  ·exact vK h
def xw (q sec:Nat) (l:List Bytes) (k:Nat):List Nat:=(List.range k).map fun j=>(xG q (nI (sec::l.map num)) ((j+1:Nat):Int)).toNat
noncomputable def Bu (q sec:Nat) (need count:Int) (vs:List Bytes) (sd:Bytes) (i:Nat):Except Int (List Nat×Nat):=
 if !fj q then .error 12 else if need<1\/need>count\/count>255\/(q:Int)<=count then .error 6
 else match lU vs sd (aX q) (need-1).toNat i []with
  | .error e=> .error e
  | .ok l=> .ok (xw q sec l count.toNat,i+(need-1).toNat)
theorem FX (q sec:Nat) (l:List Bytes) (k:Nat):(xw q sec l k).length=k:=by simp[xw]
theorem Li (q sec:Nat) (l:List Bytes) (k:Nat):xw q sec l (k+1)=xw q sec l k++[(xG q (nI (sec::l.map num)) ((k+1:Nat):Int)).toNat]:=by
 rw[xw,rj,jh];rfl
theorem lV (l:List Nat) (x:Nat):aE (l++[x])=aE l++[.v (N x)]:=by simp[aE]
theorem GV {l:List Bytes} (h: ∀x∈l,aa x=true):l.map PV.s=(l.map num).map dr:=by
 rw[iB];exact lD fun x hx=>(eE (h x hx)).symm
theorem vz (x y:Nat):decide (ba x y>=0)=decide (y<=x):=by
 rw[Kc]
 by_cases h:x<y
 ·rw[aI h,aH oO];rfl
 ·rw[aH h,aI oO];rfl
theorem HJ (hq:q<(2^64)) (q0:0<q) (hs:sec<q) (hc:count<=8\/count>255) (hv:vs.all aa=true) (hi:i<=2147483647) (hl:vs.length<1000000) (hsd:sd.length<1000000) (h:Bu q sec need count vs sd i= .error e):
  aD 59 [N q,N sec,E need,E count,T vs sd i] (.tup [.sl [],T [] [] 0,E e]):=by
 have hW:=jQ;have c1:=H5 sd (a:=(i:Int)) hl;rw[oz hv hi,ah rfl]at c1;have c2:=Du (aX q) [[aX sec]] (by simp) (by simp)
 have e2:CG (aX q) [[aX sec]]=if fj q then 0 else 12:=by
  unfold CG;rw[tS hq,aP];simp[vN (show sec<(2^64) by omega)]
 rw[e2]at c2;simp only[br,bK,LN]at c2;have c3:=ue (q:=aX q) (vN hq) (l:=[aX sec]) (by simpa using vN (show sec<(2^64) by omega)) (by simp)
 rw[show([aX sec].all fun y=>decide (num y<num (aX q)))=true by simp[aP,hs]]at c3
 simp only[br,bK]at c3;unfold Bu at h
 by_cases hp:fj q=true
 case neg=>
  have hp:fj q=false:=by simpa using hp
  rw[hp]at c2 h;injection h with h
  subst h;simp only[bm,an]at c2;refine eW call59 func59 ?_;exact z4 @sQ @c1 @c2 oT
 rw[hp]at c2 h;simp only[au,bQ,bm,an]at c2 h
 by_cases hb:need<1\/need>count\/count>255\/(q:Int)<=count
 ·rw[ah hb]at h;injection h with h
  subst h
  by_cases hin:need<1\/need>count\/count>255
  ·by_cases b1:need<1
   ·refine eW call59 func59 ?_;exact z4 @sQ @c1 @c2 @c3
   ·by_cases b2:need>count
    ·refine eW call59 func59 ?_;exact z4 @sQ @c1 @c2 @c3
    ·have b3:count>255:=oO;refine eW call59 func59 ?_;exact z4 @sQ @c1 @c2 @c3
  ·obtain⟨c,rfl⟩: ∃c:Nat,count=c:=⟨count.toNat,oO⟩;have hw: ∀ _:True,IntKind.u64.wrap (c:Int)=c:=fun _=>IntWalk.u64_in _ oO
   have o1:=lJ c oO;have o2:=sZ (a:=c) (b:=q) oO oO;have o3: ∀ _:True,decide (ba c q>=0)=true:=fun _=>by rw[vz];exact aI oO
   generalize ba c q=cm at*;refine eW call59 func59 ?_;exact AU (aN (hw oT) (o3 oT)) @sQ @c1 @c2 @c3 @o1 @o2 oT
 rw[ae hb]at h;obtain⟨c,rfl⟩: ∃c:Nat,count=c:=⟨count.toNat,oO⟩;obtain⟨d,rfl⟩: ∃d:Nat,need=(d+1:Nat):=⟨(need-1).toNat,oO⟩;have hd1:(((d+1:Nat):Int)-1).toNat=d:=oO;have hd2: ∀ _:True,IntKind.i64.wrap (((d+1:Nat):Int)-1)=(d:Int):=fun _=>by rw[IntWalk.i64_in _ oO];omega
 rw[hd1]at h;have hm:=E6 (sd:=sd) (k:=d) hv (vN hq) (fun g=>by have:=aP q;rw[g]at this;simp[num]at this;omega) hi oO hl hsd
 have hw: ∀ _:True,IntKind.u64.wrap (c:Int)=c:=fun _=>IntWalk.u64_in _ oO
 have o1:=lJ c oO;have o2:=sZ (a:=c) (b:=q) oO oO;have o3: ∀ _:True,decide (ba c q>=0)=false:=fun _=>by rw[vz];exact aH oO
 generalize ba c q=cm at*
 cases hM:lU vs sd (aX q) d i []with
 |ok l=>rw[hM]at h;cases h
 |error e'=>
  rw[hM]at h hm;have he:=vK hM;injection h with h
  subst h;simp only[zO]at hm;clear hM;refine eW call59 func59 ?_;exact AU (aN (hw oT) (aN (o3 oT) (hd2 oT))) @sQ @c1 @c2 @c3 @o1 @o2 @hm
theorem gP (hf:Nat->Option aF) (k:Nat) (l:List Nat):(aE l).flatMap (aV hf (k+1))=[]:=by
 unfold aE
 induction l with
 |nil=>rfl
 |cons x r ih=>simp_all[aV]
theorem RC (L:List Nat):List.map AV.v (List.flatMap PV.cells (L.map dr))=aE L:=by
 induction L with
 |nil=>rfl
 |cons x L ih=>simp only[br,eD,jh,ih];rfl
theorem FZ (hq:q<(2^64)) (q0:0<q) (hs:sec<q) (hc:count<=8\/count>255) (hv:vs.all aa=true) (hi:i<=2147483647) (hl:vs.length<1000000) (hsd:sd.length<1000000) {ls:List Nat} {j:Nat} (h:Bu q sec need count vs sd i= .ok (ls,j)):
  aD 59 [N q,N sec,E need,E count,T vs sd i] (.tup [.sl (ls.map dr),T vs sd (j:Nat),E 0]):=by
 have hW:=jQ;have c1:=H5 sd (a:=(i:Int)) hl;rw[oz hv hi,ah rfl]at c1;have c2:=Du (aX q) [[aX sec]] (by simp) (by simp)
 have e2:CG (aX q) [[aX sec]]=if fj q then 0 else 12:=by
  unfold CG;rw[tS hq,aP];simp[vN (show sec<(2^64) by omega)]
 rw[e2]at c2;simp only[br,bK,LN]at c2;have c3:=ue (q:=aX q) (vN hq) (l:=[aX sec]) (by simpa using vN (show sec<(2^64) by omega)) (by simp)
 rw[show([aX sec].all fun y=>decide (num y<num (aX q)))=true by simp[aP,hs]]at c3
 simp only[br,bK]at c3;unfold Bu at h
 cases hp:fj q with
 |false=>rw[hp]at h;cases h
 |true=>
 rw[hp]at c2 h;simp only[au,bQ,bm,an]at c2 h
 by_cases hb:need<1\/need>count\/count>255\/(q:Int)<=count
 ·rw[ah hb]at h;cases h
 rw[ae hb]at h;obtain⟨c,rfl⟩: ∃c:Nat,count=c:=⟨count.toNat,oO⟩;obtain⟨d,rfl⟩: ∃d:Nat,need=(d+1:Nat):=⟨(need-1).toNat,oO⟩;have hd1:(((d+1:Nat):Int)-1).toNat=d:=oO;have hd2: ∀ _:True,IntKind.i64.wrap (((d+1:Nat):Int)-1)=(d:Int):=fun _=>by rw[IntWalk.i64_in _ oO];omega
 rw[hd1,Int.toNat_natCast]at h;have bq:aa (aX q)=true:=vN hq;have hm:=E6 (sd:=sd) (k:=d) hv bq (fun g=>by have:=aP q;rw[g]at this;simp[num]at this;omega) hi oO hl hsd
 have hw: ∀ _:True,IntKind.u64.wrap (c:Int)=c:=fun _=>IntWalk.u64_in _ oO
 have o1:=lJ c oO;have o2:=sZ (a:=c) (b:=q) oO oO;have o3: ∀ _:True,decide (ba c q>=0)=false:=fun _=>by rw[vz];exact aH oO
 generalize ba c q=cm at*
 cases hM:lU vs sd (aX q) d i []with
 |error e'=>rw[hM]at h;cases h
 |ok l=>
  rw[hM]at h hm;simp only[yp,dU]at h;obtain⟨rfl,rfl⟩:=h;obtain⟨m1,m2,m3⟩:=E7 hv bq hl hi (acc:=[]) (fun _ h=>by cases h) hM
  simp only[List.length_nil,dq]at m1;simp only[zO]at hm;rw[GV fun x hx=>(m2 x hx).1]at hm
  have hsh: ∀k,xw q sec l (k+1)=xw q sec l k++[(xG q (nI (sec::l.map num)) ((k+1:Nat):Int)).toNat]:=Li q sec l;have hs0:xw q sec l 0=[]:=rfl;have hsl:=FX q sec l;obtain⟨L,hL⟩: ∃L,L=l.map num:=⟨_,rfl⟩;have lL:L.length=d:=by rw[hL,aB,m1]
  have hLq: ∀x∈sec::L,x<(2^64):=fun x hx=>by
   rcases cr.1 hx with rfl|hx
   ·omega
   ·rw[hL]at hx;obtain⟨y,hy,rfl⟩:=bG.1 hx;have:=(m2 y hy).2;rw[aP]at this;omega
  rw[<-hL]at hm hsh;have hval:=fun k (hk:k<300)=>Cs hq q0 (cs:=sec::L) hLq (x:=k) oO (by simp;omega)
  have hof:=fun k (hk:k<300)=>lJ k oO
  generalize hS:xw q sec l=S at*;have k1:=db (hsl c);have k2:=eX (S c);have k3:=dJ (hsl c);have k4:(aE (S c)).length=c:=by rw[bw,hsl]
  have cpos:0<c:=oO;clear hM m2 hL hS hp;have n1:AV.v (.s (aX sec))::aE L=aE (sec::L):=rfl;have n2:(aE (sec::L)).length=1+d:=by rw[bw];simp;omega
  have n3:=db (l:=sec::L) (n:=1+d) (by simp;omega)
  have n4:=eX (sec::L);have n5:chunk 1 (1+d) (dr sec::L.map dr)=dr sec::L.map dr:=dJ (l:=sec::L) (n:=1+d) (by simp;omega)
  refine eW call59 func59 ?_;refine SV (aN (hw oT) (aN (o3 oT) (aN (hd2 oT) (aN @lL (aN @RC @n1))))) @sQ @c1 @c2 @c3 @o1 @o2 @hm ?_;have n6:(∀x,x∈List.map dr L->x.cells.length=1)=True:=by
   simp only[eq_iff_iff,iff_true];intro x hx;obtain⟨y,-,rfl⟩:=bG.1 hx;rfl
  have n7:(∀y,y∈aE L->y.one=true)=True:=by
   simp only[eq_iff_iff,iff_true];intro x hx;obtain⟨y,-,rfl⟩:=bG.1 hx;rfl
  by_cases hd0:d=0
  ·have hL0:L=[]:=gS.1 oO;rw[ah hd0];refine cU @n6 ?_;refine af (α:=Nat) (fun j=>c-j) (fun j=>match j with|0=>⟨[(17, .v (.sl ((sec::L).map dr))),(0, .v (N q)),(9, .p 1000 0 0),(11, .p 1002 0 0),(19, .sn),(86,E' c),(87, .v (.i .i64 0))],[(1000,⟨0,[.v (.sl (vs.map .s)), .v (.s sd), .v (.i .i64 ((i+d:Nat):Int))],false,none⟩),(1002,⟨0,[.sn, .v (.s []), .v (.i .i64 0)],false,some 37⟩)],1073⟩|j+1=>⟨[(17, .v (.sl ((sec::L).map dr))),(0, .v (N q)),(9, .p 1000 0 0),(11, .p 1002 0 0),(19, .rs 1085 j 0 (j+1) 1),(86,E' c),(87,E' (j+1))],[(1000,⟨0,[.v (.sl (vs.map .s)), .v (.s sd), .v (.i .i64 ((i+d:Nat):Int))],false,none⟩),(1002,⟨0,[.sn, .v (.s []), .v (.i .i64 0)],false,some 37⟩),(1085,⟨j,aE (S (j+1)),true,some 22⟩)],1089⟩) (fun j=>j<=c) 0 (fun j=>by cases j<;>exact bZ rfl) (aJ _) ?_ ?_
   ·refine(AS.Le.LA [(17, .sl ((sec::L).map dr))] [] (fun _ h=>by cases h) (by intro p hp;rw[dt.1 hp];simp[aO,view,aV,hL0,dr]) (by first|decide|omega) ?_ ?_)<;>simp[dy,dx,aO,az,AV.bd,AV.bd.bdL]
   ·intro j hj R hR
    cases j with
    |zero=>
     have hgo:=hR 1 oO oO;simp only[hsh,hs0,List.nil_append,show∀y,aE [y]=[AV.v (N y)]from fun _=>rfl]at hgo
     have o4:=hof 1 oO;have v1:=hval 1 oO;rw[show((0+1:Nat):Int)=((1:Nat):Int)from rfl]at hgo
     generalize (xG q (nI (sec::L)) ((1:Nat):Int)).toNat=y at*;clear hR hval hof hsh;exact zg2 @hgo @o4 @v1
    |succ j=>
     have g1:=db (hsl (j+1));have g2:(aE (S (j+1))).length=j+1:=by rw[bw,hsl]
     by_cases hlt:j+1<c
     ·have hgo:=hR (j+2) oO oO;simp only[hsh (j+1),lV]at hgo;have o4:=hof (j+2) oO;have v1:=hval (j+2) oO;have hw2: ∀ _:True,IntKind.u64.wrap (((j+1:Nat):Int)+1)=((j+2:Nat):Int):=fun _=>by rw[IntWalk.u64_in _ oO];omega
      rw[show((j+1+1:Nat):Int)=((j+2:Nat):Int)from rfl]at hgo
      generalize (xG q (nI (sec::L)) ((j+2:Nat):Int)).toNat=y at*;clear hR hval hof hsh;refine pV (aN (hw2 oT) (aN @g1 @g2)) @o4 @v1 ?_;refine hgo _ ?_;refine lG ?_;all_goals exact fun c hc=>hc.elim (fun h=>dZ h) (fun h=>by rw[h];rfl)
     ·obtain rfl:j+1=c:=oO;clear hR hval hof hsh;exact gn (aN @k1 (aN @k2 (aN @k3 (aN @k4 @dC))))
  ·rw[ae hd0];refine cU (aN @n6 @n7) ?_;refine af (α:=Nat) (fun j=>c-j) (fun j=>match j with|0=>⟨[(17, .v (.sl ((sec::L).map dr))),(0, .v (N q)),(9, .p 1000 0 0),(11, .p 1002 0 0),(19, .sn),(86,E' c),(87, .v (.i .i64 0))],[(1000,⟨0,[.v (.sl (vs.map .s)), .v (.s sd), .v (.i .i64 ((i+d:Nat):Int))],false,none⟩),(1002,⟨0,[.sn, .v (.s []), .v (.i .i64 0)],false,some 37⟩)],1073⟩|j+1=>⟨[(17, .v (.sl ((sec::L).map dr))),(0, .v (N q)),(9, .p 1000 0 0),(11, .p 1002 0 0),(19, .rs 1085 j 0 (j+1) 1),(86,E' c),(87,E' (j+1))],[(1000,⟨0,[.v (.sl (vs.map .s)), .v (.s sd), .v (.i .i64 ((i+d:Nat):Int))],false,none⟩),(1002,⟨0,[.sn, .v (.s []), .v (.i .i64 0)],false,some 37⟩),(1085,⟨j,aE (S (j+1)),true,some 22⟩)],1089⟩) (fun j=>j<=c) 0 (fun j=>by cases j<;>exact bZ rfl) (aJ _) ?_ ?_
   ·refine(AS.Le.LA [(17, .sl ((sec::L).map dr))] [1068] (fun m hm=>by rw[dt.1 hm];exact⟨by decide,rfl⟩) (by intro p hp;rw[dt.1 hp];simp[aO,az,view,aV,n2,n3,n4,n5,dC,gP]) (by first|decide|omega) ?_ ?_)<;>simp[dy,dx,aO,az,AV.bd,AV.bd.bdL]
   ·intro j hj R hR
    cases j with
    |zero=>
     have hgo:=hR 1 oO oO;simp only[hsh,hs0,List.nil_append,show∀y,aE [y]=[AV.v (N y)]from fun _=>rfl]at hgo
     have o4:=hof 1 oO;have v1:=hval 1 oO;rw[show((0+1:Nat):Int)=((1:Nat):Int)from rfl]at hgo
     generalize (xG q (nI (sec::L)) ((1:Nat):Int)).toNat=y at*;clear hR hval hof hsh;exact zg2 @hgo @o4 @v1
    |succ j=>
     have g1:=db (hsl (j+1));have g2:(aE (S (j+1))).length=j+1:=by rw[bw,hsl]
     by_cases hlt:j+1<c
     ·have hgo:=hR (j+2) oO oO;simp only[hsh (j+1),lV]at hgo;have o4:=hof (j+2) oO;have v1:=hval (j+2) oO;have hw2: ∀ _:True,IntKind.u64.wrap (((j+1:Nat):Int)+1)=((j+2:Nat):Int):=fun _=>by rw[IntWalk.u64_in _ oO];omega
      rw[show((j+1+1:Nat):Int)=((j+2:Nat):Int)from rfl]at hgo
      generalize (xG q (nI (sec::L)) ((j+2:Nat):Int)).toNat=y at*;clear hR hval hof hsh;refine pV (aN (hw2 oT) (aN @g1 @g2)) @o4 @v1 ?_;refine hgo _ ?_;refine lG ?_;all_goals exact fun c hc=>hc.elim (fun h=>dZ h) (fun h=>by rw[h];rfl)
     ·obtain rfl:j+1=c:=oO;clear hR hval hof hsh;exact gn (aN @k1 (aN @k2 (aN @k3 (aN @k4 @dC))))
