/- Part of the proof. -/
import Derived.Test.YtipbhapfacgabaaGreatDoorUH27
set_option linter.all false
set_option maxHeartbeats 16000000
set_option maxRecDepth 100000
namespace Go.Proofs.Tryz
open Go Go.Dom Go.Num
theorem G1 (a:Bytes):aF 227 [.s a] (.b (aa a)):=by
 rw[uY];refine eW call227 func227 ?_;repeat' first|simp only[go_sem,seval]|refine oE ?_|apply xX<;>intro hc
 all_goals simp_all
 all_goals first|omega|(cases a<;>simp_all)
theorem Cz {a:Bytes} {i:Nat} (h:i<a.length):(num (a.take i)%(2^64)*256%(2^64)+(a.getD i 0).toNat)%(2^64)=num (a.take (i+1))%(2^64):=by
 rw[kH h];omega
theorem S3 (a:Bytes) (la:a.length<1099511627776):aF 146 [.s a] (.tup [.i .u64 (num a%(2^64):Nat), .b (decide (a.length<=8))]):=by
 refine eW call146 func146 ?_;refine Hw ?_;refine aq (α:=Nat) (fun i=>a.length-i) (fun i=>⟨[(0, .v (.s a)),(4, .v (.i .u64 (num (a.take i)%(2^64):Nat))),(5, .v (.i .i64 i))],[],_⟩) (fun i=>i<=a.length) 0 (fun _=>aB _) (aT _) ?_ ?_
 ·(refine AS.Le.of (by first|decide|omega) ?_ ?_<;>simp[dG,dF,aO,hget,AV.bd,AV.bd.bdL,u8,ar,au,az])
  all_goals rfl
 ·intro i hi R hR
  by_cases hlt:i<a.length
  ·have h1:=Cz hlt;have hgo:=hR (i+1) oO oO;rw[<-h1]at hgo;clear h1 hR;obtain⟨u,hu⟩: ∃u,u=num (a.take i)%(2^64):=⟨_,rfl⟩;have hul:u<(2^64):=by rw[hu];exact aL _ oC
   rw[<-hu]at hgo⊢;have hw1: ∀ _:True,IntKind.u64.wrap ((u:Int)*256)=((u*256%(2^64):Nat):Int):=fun _=>by rw[FO];omega
   have hw2: ∀x:Nat,IntKind.u64.wrap (((u*256%(2^64):Nat):Int)+(x:Int))=(((u*256%(2^64)+x)%(2^64):Nat):Int):=fun x=>by rw[FO];omega
   have hwb: ∀c:UInt8,IntKind.u64.wrap ((c.toNat:Nat):Int)=((c.toNat:Nat):Int):=fun c=>IntWalk.u64_in _ (by have:=c.toNat_lt;omega)
   exact ua (aN (hw1 oT) (aN @hw2 @hwb)) @hgo
  ·obtain rfl:i=a.length:=oO;rw[cq];have hd:decide ((a.length:Int)<=8)=decide (a.length<=8):=by rw[cI];simp only[bc];omega
   exact oo @hd
theorem zo {a b m:Nat} (ha:a<m) (hb:b<m) (hm:m<(2^64)):aF 354 [.i .u64 a, .i .u64 b, .i .u64 m] (.i .u64 ((a+b)%m:Nat)):=by
 by_cases h:m<=a+b
 ·have e:(a+b)%m=a+b-m:=by rw[Nat.mod_eq_sub_mod h,bM oO]
  rw[e];refine eW call354 func354 ?_;repeat' first|simp only[go_sem,seval]|refine oE ?_|apply xX<;>intro hc
  all_goals first|rfl|(congr 1;omega)
 ·have e:(a+b)%m=a+b:=bM oO;rw[e];refine eW call354 func354 ?_;repeat' first|simp only[go_sem,seval]|refine oE ?_|apply xX<;>intro hc
  all_goals first|rfl|(congr 1;omega)
theorem rJ {a b m:Nat} (ha:a<m) (hb:b<m) (hm:m<(2^64)):aF 309 [.i .u64 a, .i .u64 b, .i .u64 m] (.i .u64 (a*b%m:Nat)):=by
 by_cases h32:m<4294967296
 ·have hlt:a*b<4294967296*4294967296:=gK oO oO;have hw: ∀ _:True,IntKind.u64.wrap ((a:Int)*(b:Int))=((a*b:Nat):Int):=fun _=>by rw[<-Int.natCast_mul,IntWalk.u64_in _ oO]
  clear hlt;refine eW call309 func309 ?_;repeat' first|simp only[go_sem,seval,hw oT]|refine oE ?_|apply xX<;>intro hc
  all_goals skip
 ·refine eW call309 func309 ?_;refine Hw ?_;refine aq (α:=Nat×Nat×Nat) (fun s=>s.2.2) (fun s=>⟨[(0,U s.2.1),(1,U s.2.2),(2,U m),(7,U s.1)],[],_⟩) (fun s=>s.1<m/\s.2.1<m/\s.2.2<(2^64)/\(s.1+s.2.1*s.2.2)%m=a*b%m) (0,a,b) (fun _=>aB _) ⟨by show 0<m;omega,ha,by show b< _;omega,by simp⟩ ?_ ?_
  ·exact lE
  ·rintro⟨u,x,y⟩ ⟨hu,hx,hy,he⟩ R hR;simp only at hu hx hy he
   by_cases h0:y=0
   ·subst h0;rw[Nat.mul_zero,Nat.add_zero,bM hu]at he;refine xy ?_;rw[he]
   ·have a1:=zo hu hx hm;have a2:=zo hx hx hm;have hm1:(u+x)%m<m:=aL _ oO;have hm2:(x+x)%m<m:=aL _ oO;have hy2:((y:Int)).tmod 2=((y%2:Nat):Int):=rfl;have hyd:y/2<=y:=fF _ _;have hxx: ∀k,(x+x)%m*k%m=x*(2*k)%m:=fun k=>by rw[lj,<-qH,bw 2 x,cr]
    rcases(show y%2=1\/y%2=0 by omega)with g|g
    ·have he2:((u+x)%m+(x+x)%m*(y/2))%m=a*b%m:=by
      rw[<-he,lg,hxx,dN,<-lg];have:x*y=x+x*(2*(y/2)):=by
       have:y=1+2*(y/2):=oO
       conv=>lhs;rw[this,lA,eH]
      rw[this];congr 1;omega
     have hgo:=hR ((u+x)%m,(x+x)%m,y/2) ⟨hm1,hm2,by show y/2< _;omega,he2⟩ (by show y/2<y;omega)
     clear he he2 hR hxx;exact DM (aN @hy2 @g) @hgo @a1 @a2
    ·have he2:(u+(x+x)%m*(y/2))%m=a*b%m:=by
      rw[<-he,lg,hxx,<-lg];have:x*y=x*(2*(y/2)):=by congr 1;omega
      rw[this]
     have hgo:=hR (u,(x+x)%m,y/2) ⟨hu,hm2,by show y/2< _;omega,he2⟩ (by show y/2<y;omega)
     clear he he2 hR hxx;exact DM (aN @hy2 @g) @hgo @a1 @a2
theorem G0 {a e m:Nat} (ha:a<m) (he:e<(2^64)) (hm:m<(2^64)):aF 308 [.i .u64 a, .i .u64 e, .i .u64 m] (.i .u64 (a^e%m:Nat)):=by
 have h0:0<m:=oO;have e1:(1:Int).tmod (m:Int)=((1%m:Nat):Int):=rfl;refine eW call308 func308 ?_;refine fq @e1 ?_;refine aq (α:=Nat×Nat×Nat) (fun s=>s.2.2) (fun s=>⟨[(0,U s.2.1),(1,U s.2.2),(2,U m),(7,U s.1)],[],_⟩) (fun s=>s.1<m/\s.2.1<m/\s.2.2<(2^64)/\s.1*s.2.1^s.2.2%m=a^e%m) (1%m,a,e) (fun _=>aB _) ⟨aL _ h0,ha,he,by show 1%m*a^e%m= _;rw[lj,jP]⟩ ?_ ?_
 ·(refine AS.Le.of (by first|decide|omega) ?_ ?_<;>simp[dG,dF,aO,hget,AV.bd,AV.bd.bdL,u8,ar,au,az])
  all_goals first|rfl|skip
 ·rintro⟨u,x,y⟩ ⟨hu,hx,hy,hq⟩ R hR;simp only at hu hx hy hq
  by_cases h1:y=0
  ·subst h1;rw[Nat.pow_zero,eH,bM hu]at hq;refine xy ?_;rw[hq]
  ·have a1:=rJ hu hx hm;have a2:=rJ hx hx hm;have hm1:u*x%m<m:=aL _ h0;have hm2:x*x%m<m:=aL _ h0;have hy2:((y:Int)).tmod 2=((y%2:Nat):Int):=rfl;have hyd:y/2<=y:=fF _ _;rcases(show y%2=1\/y%2=0 by omega)with g|g
   ·have hgo:=hR (u*x%m,x*x%m,y/2) ⟨hm1,hm2,by show y/2< _;omega,by show u*x%m*(x*x%m)^(y/2)%m= _;rw[NX g,hq]⟩ (by show y/2<y;omega)
    clear hq hR;exact DM (aN @hy2 @g) @hgo @a1 @a2
   ·have hgo:=hR (u,x*x%m,y/2) ⟨hu,hm2,by show y/2< _;omega,by show u*(x*x%m)^(y/2)%m= _;rw[IC g,hq]⟩ (by show y/2<y;omega)
    clear hq hR;exact DM (aN @hy2 @g) @hgo @a1 @a2
def S6 (n:Nat):Nat->Nat->Bool
 |0,_=>false
 |r+1,x=>x==n-1||S6 n r (x*x%n)
theorem OL (n:Nat): ∀r x,S6 n (r+1) x=(x==n-1||S8 r x n)
 |0,x=>rfl
 |r+1,x=>by rw[S6,OL n r];rfl
theorem G3 {n a:Nat} (hn:n<(2^64)) (h3:3<=n) (hodd:n%2=1) (ha:a<n) (ha0:a≠0):aF 228 [.i .u64 n, .i .u64 a] (.b (nF n (FI 64 (n-1)) ((n-1)/2^FI 64 (n-1)) a)):=by
 have e1: ∀ _:True,((n:Int)-1)=((n-1:Nat):Int):=fun _=>oO
 have e2:(n:Int).tmod 2=((n%2:Nat):Int):=rfl;obtain⟨T,hT⟩: ∃T,T=FI 64 (n-1):=⟨_,rfl⟩;rw[<-hT];have hT0:T≠0:=by
  rw[hT];unfold FI;rw[af oO];omega
 refine eW call228 func228 ?_;repeat' first|simp only[go_sem,seval,e1 oT,e2,hodd]|refine oE ?_|apply xX<;>intro hc
 refine aq (α:=Nat×Nat) (fun s=>s.1) (fun s=>⟨[(0,U n),(1,U a),(5,U s.1),(6,E' s.2)],[],_⟩) (fun s=>0<s.1/\s.1<(2^64)/\s.2<=64/\s.1<2^(64-s.2)/\s.1=(n-1)/2^s.2/\FI (64-s.2) s.1+s.2=T) (n-1,0) (fun _=>aB _) ⟨by show 0<n-1;omega,by show n-1< _;omega,by show 0<=64;omega,by show n-1<2^64;omega,by show n-1= _;rw[Nat.pow_zero,jO],by rw[hT];rfl⟩ ?_ ?_
 ·exact lE
 ·rintro⟨d,s⟩ ⟨hd0,hd1,hs,hds,hde,ht⟩ R hR;simp only at hd0 hd1 hs hds hde ht;have ed:(d:Int).tmod 2=((d%2:Nat):Int):=rfl;have hs64:s<64:=by
   rcases ij s 64 with g|g
   ·exact g
   ·obtain rfl:s=64:=oO;simp at hds;omega
  obtain⟨f,hf⟩: ∃f,64-s=f+1:=⟨63-s,oO⟩;rw[hf]at hds ht;unfold FI at ht
  by_cases hev:d%2=0
  ·rw[af oO]at ht;have hdl:d/2<=d:=fF _ _;have hgo:=hR (d/2,s+1) ⟨by show 0<d/2;omega,by show d/2< _;omega,by show s+1<=64;omega,by
    show d/2<2^(64-(s+1));rw[show 64-(s+1)=f by omega];rw[Nat.pow_succ]at hds;omega,by
    show d/2=(n-1)/2^(s+1);rw[Nat.pow_succ,<-fj,<-hde],by
    show FI (64-(s+1)) (d/2)+(s+1)=T;rw[show 64-(s+1)=f by omega];omega⟩ (by show d/2<d;omega)
   clear hR ht;exact ua (aN @ed @hev) @hgo
  ·have hev:d%2=1:=oO;rw[ah hev,fG]at ht;subst ht;rw[<-hde];have hx:=G0 (a:=a) (e:=d) (m:=n) ha hd1 hn;have es:nF n s d a=(a^d%n==1||S6 n s (a^d%n)):=by
    unfold nF;rw[bM ha];obtain⟨r,hr⟩: ∃r,s=r+1:=⟨s-1,oO⟩;rw[hr,OL,o6,Bool.or_assoc]
   rw[es];obtain⟨x,hxx⟩: ∃x,x=a^d%n:=⟨_,rfl⟩;have hxl:x<n:=by rw[hxx];exact aL _ oO
   rw[<-hxx]at hx⊢;clear hR es hde hxx
   by_cases hx1:x=1
   ·subst hx1;repeat' first|simp only[go_sem,seval,ed,hev]|refine cP hx ?_|refine oE ?_|apply xX<;>intro hc
    all_goals skip
   have hb1:(x==1)=false:=by simpa using hx1
   have hb2:((x:Int)==1)=false:=by rw[dY];omega
   rw[hb1,kE];refine Hx (aN @ed (aN @hev @hb2)) @hx ?_;refine aq (α:=Nat×Nat) (fun s'=>s-s'.1) (fun s'=>⟨[(0,U n),(6,E' s),(7,U s'.2),(8,E' s'.1)],[],_⟩) (fun s'=>s'.1<=s/\s'.2<n/\S6 n (s-s'.1) s'.2=S6 n s x) (0,x) (fun _=>aB _) ⟨aT _,hxl,rfl⟩ ?_ ?_
   ·exact lE
   ·rintro⟨i,z⟩ ⟨hi,hz,hq⟩ R hR;simp only at hi hz hq;rw[<-hq]
    by_cases hlt:i<s
    ·have hmm:=rJ hz hz hn;have hzz:z*z%n<n:=aL _ oO;obtain⟨r,hr⟩: ∃r,s-i=r+1:=⟨s-i-1,oO⟩;have hgo:=hR (i+1,z*z%n);rw[hr]at hq⊢;simp only[S6]at hq⊢
     by_cases hzn:z=n-1
     ·have hb: ∀ _:True,((z:Int)==((n-1:Nat):Int))=true:=fun _=>by rw[hzn];simp
      have hb':(z==n-1)=true:=by simpa using hzn
      rw[hb',qG];clear hq hgo hR;exact oo (aN (e1 oT) (hb oT))
     ·have hb: ∀ _:True,((z:Int)==((n-1:Nat):Int))=false:=fun _=>by rw[dY];omega
      have hb':(z==n-1)=false:=by simpa using hzn
      rw[hb',kE]at hq⊢;rw[<-hq]at hgo;have hgo:=hgo ⟨by show i+1<=s;omega,hzz,by show S6 n (s-(i+1)) _= _;rw[show s-(i+1)=r by omega]⟩ (by show s-(i+1)<s-i;omega)
      clear hq hR;exact qe (aN (e1 oT) (hb oT)) @hgo @hmm
    ·obtain rfl:i=s:=oO;rw[iX];exact z0
theorem X2 {i:Nat} (h:i<12):(List.map (fun n:Nat=>PV.i .u64 (n:Int)) cg).getD i .fn0= .i .u64 (cg.getD i 0:Nat):=by
 have h2:i<cg.length:=h;simp[bR,h2]
theorem IL {n:Nat} (hn:n<(2^64)):aF 147 [.i .u64 n] (.b (eZ n)):=by
 by_cases h2:n<2
 ·have e:eZ n=false:=by simp[eZ,h2]
  rw[e];refine eW call147 func147 ?_;exact z0
 obtain⟨B,hB⟩: ∃B,B=List.map (fun n:Nat=>PV.i .u64 (n:Int)) cg:=⟨_,rfl⟩
 have hBl:B.length=12:=by rw[hB];rfl
 have hBe: ∀ _:True,[PV.i .u64 2, .i .u64 3, .i .u64 5, .i .u64 7, .i .u64 11, .i .u64 13, .i .u64 17, .i .u64 19, .i .u64 23, .i .u64 29, .i .u64 31, .i .u64 37]=B:=fun _=>by rw[hB];rfl
 have hBc: ∀x∈B,x.cells.length=1:=by
  rw[hB];intro x hx;obtain⟨c,-,rfl⟩:=cG.1 hx;rfl
 have hBg: ∀{i:Nat},i<12->B.getD i .fn0= .i .u64 (cg.getD i 0:Nat):=fun h=>by rw[hB];exact X2 h
 clear hB;refine eW call147 func147 ?_;refine fq (hBe oT) ?_;refine aq (α:=Nat) (fun i=>12-i) (fun i=>⟨[(0,U n),(3, .fs B),(4,E' i)],[],_⟩) (fun i=>i<=12/\cg.find? (fun p=>n%p==0)=(cg.drop i).find? (fun p=>n%p==0)) 0 (fun _=>aB _) ⟨oO,rfl⟩ ?_ ?_
 ·exact lE
 ·rintro i ⟨hi,hf⟩ R hR
  by_cases hlt:i<12
  ·have g1:=hBg hlt;obtain⟨q0,q1⟩:=P9 hlt;rw[HK hlt]at hf;have hmc: ∀q:Nat,(n:Int).tmod (q:Int)=((n%q:Nat):Int):=fun q=>rfl
   generalize cg.getD i 0=q at*
   by_cases hq:n=q
   ·have hz:(n%q==0)=true:=by rw[hq];simp
    rw[List.find?_cons,hz]at hf;have e:eZ n=true:=by
     unfold eZ;rw[af h2,hf];simpa using hq
    rw[e];exact oo (aN @hBl (aN @g1 @hmc))
   ·by_cases hz0:n%q=0
    ·have hz:(n%q==0)=true:=by simpa using hz0
     rw[List.find?_cons,hz]at hf;have e:eZ n=false:=by
      unfold eZ;rw[af h2,hf];simpa using hq
     rw[e];exact oo (aN @hBl (aN @g1 (aN @hmc @hz0)))
    ·have hz:(n%q==0)=false:=by simpa using hz0
     rw[List.find?_cons,hz]at hf;have hgo:=hR (i+1) ⟨oO,hf⟩ oO;exact ua (aN @hBl (aN @g1 @hmc)) @hgo
  ·obtain rfl:i=12:=oO;have hf:cg.find? (fun p=>n%p==0)=none:=hf
   have hnd: ∀q∈cg,n%q≠0:=fun q hq=>by simpa using List.find?_eq_none.1 hf q hq
   have key:eZ n=cg.all (nF n (FI 64 (n-1)) ((n-1)/2^FI 64 (n-1))):=by
    unfold eZ;rw[af h2,hf]
   have h37:37<n:=by
    rcases ij 37 n with g|g
    ·exact g
    ·exfalso
     have: ∀k:Fin 38,2<=k.val-> ∃q∈cg,k.val%q=0:=by decide
     obtain⟨q,hq1,hq2⟩:=this ⟨n,oO⟩ (by show 2<=n;omega)
     exact hnd q hq1 hq2
   have hodd:n%2=1:=by have:=hnd 2 oC;omega
   rw[key];have hst:=fun a (h1:a<38) (h0:a≠0)=>G3 (a:=a) hn oO hodd oO h0
   clear key hf hnd hR;generalize nF n (FI 64 (n-1)) ((n-1)/2^FI 64 (n-1))=st at*;refine fq @hBl ?_;refine aq (α:=Nat) (fun i=>12-i) (fun i=>⟨[(0,U n),(3, .fs B),(5,E' i)],[],_⟩) (fun i=>i<=12/\cg.all st=(cg.drop i).all st) 0 (fun _=>aB _) ⟨oO,rfl⟩ ?_ ?_
   ·exact lE
   ·rintro i ⟨hi,hf⟩ R hR
    by_cases hlt:i<12
    ·have g1:=hBg hlt;obtain⟨q0,q1⟩:=P9 hlt;rw[HK hlt,List.all_cons]at hf;have hR1:=hR (i+1);generalize cg.getD i 0=q at*;have hs:=hst q q1 oO
     cases hsq:st q
     ·rw[hsq]at hs hf;rw[hf,fp];exact ot (aN @hBl @g1) @hs
     ·rw[hsq]at hs hf;rw[cB]at hf;have hgo:=hR1 ⟨oO,hf⟩ oO;exact qe (aN @hBl @g1) @hgo @hs
    ·obtain rfl:i=12:=oO;have e:cg.all st=true:=hf;rw[e];exact oo @hBl
theorem G2 (a:Bytes) (la:a.length<1099511627776):aF 145 [.s a] (.tup [.b (aa a&&decide (a.length<=8)&&eZ (num a)),E (if aa a then(if a.length<=8 then 0 else 5)else 3)]):=by
 have hf:=G1 a;have hu:=S3 a la
 by_cases hv:aa a=true
 ·rw[hv]at hf⊢
  by_cases h8:a.length<=8
  ·have hn:=cU h8;rw[aS h8,bM hn]at hu;have hi:=IL hn;rw[aS h8,ah rfl,ah h8];generalize eZ (num a)=b at*;refine eW call145 func145 ?_;exact YZ @hf @hu @hi oT
  ·rw[b9 h8]at hu⊢;rw[ah rfl,af h8];refine eW call145 func145 ?_;exact O5 @hf @hu
 ·have hv:aa a=false:=by simpa using hv
  rw[hv]at hf⊢;refine eW call145 func145 ?_;exact Sp @hf
end Go.Proofs.Tryz
namespace Go.Proofs.Tryz
open Go Go.Dom Go.Num
theorem Xk {a b:Nat} (h:a<b):decide (bK a b>=0)=false:=b9 (fun g=>by have:=mP.1 g;omega)
theorem Xl {a b:Nat} (h:b<=a):decide (bK a b>=0)=true:=aS (mP.2 h)
theorem dLt (a b:Nat):decide (bK a b<0)=decide (a<b):=by rw[cI];simp only[bc];exact ji
theorem Bp (m o:Bytes):aF 206 [G m o] (.b (aa m&&aa o)):=by
 have v1:=aQ m;have v2:=aQ o;refine eW call206 func206 ?_;exact O5 @v1 @v2
theorem CF {m o:Bytes} (vm:aa m=true) (vo:aa o=true) (h0:0<num o):aF 207 [G m o] (.b (!(m==[])&&decide ((num m-1)%num o=0))):=by
 have lm:=eu vm;have lo:=eu vo
 by_cases hm:m=[]
 ·subst hm;refine eW call207 func207 ?_;exact oo @nn
 have hb:(m==([]:Bytes))=false:=by simpa using hm
 have hp:=oI (bY vm) hm;have h1:=uP m [1] oO oC hp;rw[show num ([1]:Bytes)=1 from rfl]at h1
 have h2:=sN (a:=aZ (num m-1)) (b:=o) (gF _) (bY vo) h0 (by
  have:(aZ (num m-1)).length<=128:=ql.2 (by have:=oH vm;unfold dP;omega)
  omega) oO
 rw[aP]at h2;have hz: ∀ _:True,(aZ ((num m-1)%num o)==([]:Bytes))=decide ((num m-1)%num o=0):=fun _=>by
  rw[cI];simp[gR]
 rw[hb];refine eW call207 func207 ?_;repeat' first|simp only[go_sem,seval,hb,hz oT]|refine cP h1 ?_|refine cP h2 ?_|refine oE ?_|apply xX<;>intro hc
 all_goals simp
theorem GY (m o:Bytes):aF 108 [G m o] (E (ud m o)):=by
 have hf:=Bp m o
 by_cases hv:aa m=true/\aa o=true
 case neg=>
  have e:(aa m&&aa o)=false:=by rw[dA];intro g;simp at g;exact hv g
  rw[e]at hf;have e2:ud m o=3:=by simp[ud,e]
  rw[e2];refine eW call108 func108 ?_;exact z1 @hf
 obtain⟨v1,v2⟩:=hv;have lm:=eu v1;have lo:=eu v2;have hm:=G2 m oO;have ho:=G2 o oO;rw[v1,v2]at hf;rw[v1]at hm;rw[v2]at ho;simp only[cB,aA]at hm ho
 by_cases l1:m.length<=8
 case neg=>
  have e2:ud m o=5:=by simp[ud,v1,v2];intro g;omega
  rw[e2];refine eW call108 func108 ?_;exact z1 @hf
 rw[aS l1,ah l1,cB]at hm
 by_cases p1:eZ (num m)=true
 case neg=>
  have p1:eZ (num m)=false:=by simpa using p1
  have e2:ud m o=12:=by simp[ud,v1,v2,p1,l1]
  rw[p1]at hm;rw[e2];refine eW call108 func108 ?_;exact z2 @hf @hm
 rw[p1]at hm
 by_cases l2:o.length<=8
 case neg=>
  have e2:ud m o=13:=by simp[ud,v1,v2,p1,show¬8<m.length by omega,show 8<o.length by omega]
  rw[e2];refine eW call108 func108 ?_;exact z2 @hf @hm
 rw[aS l2,ah l2,cB]at ho
 by_cases p2:eZ (num o)=true
 case neg=>
  have p2:eZ (num o)=false:=by simpa using p2
  have e2:ud m o=12:=by simp[ud,v1,v2,p1,p2,show¬8<m.length by omega,show¬8<o.length by omega]
  rw[p2]at ho;rw[e2];refine eW call108 func108 ?_;exact z4 @hf @hm @ho oT
 rw[p2]at ho;have h2:2<=num m:=by rcases ij (num m) 2 with g|g;simp[eZ,g]at p1;exact g
 have h3:2<=num o:=by rcases ij (num o) 2 with g|g;simp[eZ,g]at p2;exact g
 have hd:=CF v1 v2 oO;have hb:(m==([]:Bytes))=false:=by simp;intro e;subst e;simp[num]at h2
 rw[hb]at hd;have e2:ud m o=if(num m-1)%num o=0 then 0 else 13:=by simp[ud,v1,v2,p1,p2,show¬8<m.length by omega,show¬8<o.length by omega]
 rw[e2];generalize (num m-1)%num o=z at*;refine eW call108 func108 ?_;exact YZ @hf @hm @ho @hd
theorem Fa {m:Bytes} (lm:m.length<=8) (o x:Bytes):aF 208 [G m o, .s x] (.b (iz m o x)):=by
 have hf:=Bp m o;have vx:=aQ x
 by_cases h:aa m=true/\aa o=true/\aa x=true/\o≠[]/\x≠[]
 ·obtain⟨v1,v2,v3,h4,h5⟩:=h;have e4:(o==([]:Bytes))=false:=by simpa using h4
  have e5:(x==([]:Bytes))=false:=by simpa using h5
  have hn:=cU lm;have lx:=eu v3;have hor:=nX (bY v3) (bY v1) oO oO;rw[v1,v2]at hf;rw[v3]at vx;have hx0:=oI (bY v3) h5
  by_cases h6:num x<num m
  ·have hE:=S2 (a:=num x) (m:=num m) (e:=o) oO v2 hn oO;rw[eT v3,eT v1]at hE;have hlt: ∀ _:True,decide (bK (num x) (num m)>=0)=false:=fun _=>Xk oO
   have e:iz m o x=decide (num x^num o%num m=1):=by simp[iz,v1,v2,v3,e4,e5,h6,bM (show 1<num m by omega)]
   rw[e];generalize num x^num o%num m=z1 at*;refine eW call208 func208 ?_;exact zW (aN @e4 (aN @e5 (aN (hlt oT) @NS))) @hf @vx @hor @hE
  ·have hlt: ∀ _:True,decide (bK (num x) (num m)>=0)=true:=fun _=>Xl oO
   have e:iz m o x=false:=by simp[iz,h6]
   rw[e];refine eW call208 func208 ?_;exact zW (aN @e4 (aN @e5 (hlt oT))) @hf @vx @hor oT
 ·have e:iz m o x=false:=by
   rw[dA];intro g;simp[iz]at g;exact h ⟨g.1.1.1.1.1.1,g.1.1.1.1.1.2,g.1.1.1.1.2,g.1.1.1.2,g.1.1.2⟩
  rw[e]
  by_cases hmo:(aa m&&aa o)=true
  case neg=>
   have hmo:(aa m&&aa o)=false:=by simpa using hmo
   rw[hmo]at hf;refine eW call208 func208 ?_;exact z2 @hf @vx
  rw[hmo]at hf
  by_cases v3:aa x=true
  case neg=>
   have v3:aa x=false:=by simpa using v3
   rw[v3]at vx;refine eW call208 func208 ?_;exact z2 @hf @vx
  rw[v3]at vx
  by_cases h4:o=[]
  ·subst h4;refine eW call208 func208 ?_;exact wq @nn @hf @vx
  ·have e4:(o==([]:Bytes))=false:=by simpa using h4
   by_cases h5:x=[]
   ·subst h5;refine eW call208 func208 ?_;exact wq (aN @nn @e4) @hf @vx
   ·simp only[aV]at hmo;exact aJ ⟨hmo.1,hmo.2,v3,h4,h5⟩ h
theorem E9 {m:Bytes} (lm:m.length<=8) (o x:Bytes):aF 109 [G m o, .s x] (.b (iz m o x&& !(x==[1]))):=by
 have h:=Fa lm o x;generalize iz m o x=z at*;refine eW call109 func109 ?_;exact Sp @h
theorem X5:aF 28 [.i .u64 8] (.s [8]):=oN 8 oC
theorem IP:aF 28 [.i .u64 1] (.s [1]):=oN 1 oC
theorem X4:aF 28 [.i .u64 2] (.s [2]):=oN 2 oC
theorem zk (m o:Bytes):aF 54 [G m o] (.b (dH m o)):=by
 have hv:=aQ m
 by_cases h:aa m=true
 ·have hb:=CG h 0 oC;have hcm:=wJ m [8];rw[h]at hv;rw[h,show aa [8]=true from rfl,show num [8]=8 from rfl]at hcm
  have he:bK (num m) 8>0↔8<num m:=by unfold bK;split<;>(try split)<;>omega
  have h8:=X5;refine eW call54 func54 ?_;repeat' first|simp only[go_sem,seval]|refine cP hv ?_|refine cP hb ?_|refine cP h8 ?_|refine cP hcm ?_|refine oE ?_|apply xX<;>intro hc
  all_goals simp_all[dH]
 ·have h:aa m=false:=by simpa using h
  rw[h]at hv;have e:dH m o=false:=by simp[dH,h]
  rw[e];refine eW call54 func54 ?_;exact z1 @hv
theorem Bn {m:Bytes} (lm:m.length<=8) (o x:Bytes):aF 105 [G m o, .s x] (.b (cL m o x)):=by
 have hg:=zk m o;have hv:=aQ x;have h1':=IP
 by_cases h:dH m o=true/\aa x=true/\x≠[]/\num x<num m
 ·obtain⟨h1,h2,h3,h4⟩:=h;have hm:aa m=true:=by simp[dH]at h1;exact h1.1.1.1
  have hcm:=wJ x m;rw[h2,hm]at hcm;simp only[dW,aA]at hcm;have hgc:=RG h2 hm;rw[h1]at hg;rw[h2]at hv;have hx:(x==([]:Bytes))=false:=by simpa using h3
  have hlt: ∀ _:True,decide (bK (num x) (num m)>=0)=false:=fun _=>Xk oO
  have e:cL m o x=decide (Nat.gcd (num x) (num m)=1):=by simp[cL,h1,h2,hx,h4]
  rw[e];refine eW call105 func105 ?_;repeat' first|simp only[go_sem,seval,hx,hlt oT,NS]|refine cP hg ?_|refine cP hv ?_|refine cP hcm ?_|refine cP hgc ?_|refine cP h1' ?_|refine oE ?_|apply xX<;>intro hc
  all_goals first|rfl|simp|skip
 ·have e:cL m o x=false:=by
   rw[dA];intro g;simp[cL]at g;exact h ⟨g.1.1.1.1,g.1.1.1.2,g.1.1.2,g.1.2⟩
  rw[e]
  by_cases h1:dH m o=true
  case neg=>
   have h1:dH m o=false:=by simpa using h1
   rw[h1]at hg;refine eW call105 func105 ?_;exact z2 @hg @hv
  have hm:aa m=true:=by simp[dH]at h1;exact h1.1.1.1
  rw[h1]at hg
  by_cases h2:aa x=true
  case neg=>
   have h2:aa x=false:=by simpa using h2
   rw[h2]at hv;refine eW call105 func105 ?_;exact z2 @hg @hv
  rw[h2]at hv
  by_cases h3:x=[]
  ·subst h3;refine eW call105 func105 ?_;exact wq @nn @hg @hv
  have hx:(x==([]:Bytes))=false:=by simpa using h3
  have hcm:=wJ x m;rw[h2,hm]at hcm;simp only[dW,aA]at hcm;have hlt: ∀ _:True,decide (bK (num x) (num m)>=0)=true:=fun _=>Xl (by by_cases g:num m<=num x;exact g;exact aJ ⟨h1,h2,h3,oO⟩ h)
  refine eW call105 func105 ?_;exact zW (aN @hx (hlt oT)) @hg @hv @hcm oT
theorem zm {m:Bytes} (lm:m.length<=8) (o x:Bytes):aF 112 [G m o, .s x] (.b (cL m o x&& !(x==[1]))):=by
 have h:=Bn lm o x;have h1':=IP;generalize cL m o x=z at*;refine eW call112 func112 ?_;exact O5 @h @h1'
theorem eB {x y:Bytes} (h:aa x=true) (g:aa y=true):aF 111 [.s x, .s y] (.b (decide (num x<num y))):=by
 have hc:=wJ x y;rw[h,g]at hc;simp only[dW,aA]at hc;have e: ∀ _:True,decide (bK (num x) (num y)<0)=decide (num x<num y):=fun _=>dLt _ _
 refine eW call111 func111 ?_;exact ot (e oT) @hc
theorem VT (p:cz) (h:p.eA.all aa=false):aF 49 [p.pv] (E 3):=by
 have hn:=xH p;obtain⟨c,sl,mm,mo,mg,mh,wm,wo,wg,wh,se,at',ha,el,es,bl,ma⟩:=p;unfold cz.pv cz.eA cz.Ix at*;simp only[br,bH]at*;refine eW call49 func49 ?_;repeat' first|simp only[go_sem,seval,iq,iW]|refine cP hn ?_|refine cP (aQ _) ?_|(refine aj ?_)|refine oE ?_|apply xX<;>intro hc
 all_goals (exfalso;simp_all)
theorem RD (p:cz) (h:p.eA.all aa=true) (hs:p.short):aF 49 [p.pv] (E (fB p)):=by
 have hn:=xH p;have lw:p.wm.length<=8:=hs _ (by simp[cz.eA])
 have lm:p.mm.length<=8:=hs _ (by simp[cz.eA])
 have la:p.at'.length<=8:=hs _ (by simp[cz.eA])
 have u1:=zm lw p.wo p.wg;have u2:=zm lw p.wo p.wh;have c1:=GY p.mm p.mo;have c2:=E9 lm p.mo p.mg;have c3:=E9 lm p.mo p.mh;have hoE:p.mo=[]->ud p.mm p.mo≠0:=by
  intro e;rw[e];unfold ud
  split<;>(try split)<;>(try split)<;>simp_all[eZ,num]
 have hwr: ∀x,(p.wo≠[]\/(num p.wm).testBit 0=false\/ ¬8<num p.wm)->(cL p.wm p.wo x&& !(x==[1]))=false:=by
  intro x hx;rw[dA];intro g;simp only[cL,dH,aV,dZ,bc]at g;rcases hx with h1|h1|h1
  ·exact h1 g.1.1.1.1.1.1.1.2
  ·rw[h1]at g;exact aJ g.1.1.1.1.1.1.2 (by simp)
  ·exact h1 g.1.1.1.1.1.2
 have hw1:=hwr p.wg;have hw2:=hwr p.wh;clear hwr;unfold fB;rw[h];generalize (cL p.wm p.wo p.wg&& !(p.wg==[1]))=b1 at*;generalize (cL p.wm p.wo p.wh&& !(p.wh==[1]))=b2 at*;generalize (iz p.mm p.mo p.mg&& !(p.mg==[1]))=b3 at*;generalize (iz p.mm p.mo p.mh&& !(p.mh==[1]))=b4 at*;generalize ud p.mm p.mo=e1 at*;clear hs;obtain⟨c,sl,mm,mo,mg,mh,wm,wo,wg,wh,se,at',ha,el,es,bl,ma⟩:=p;unfold cz.pv cz.eA cz.rO cz.Ix at*;simp only[br,bH,List.all_cons,List.all_nil,aV,js]at*;obtain⟨h1,h2,h3,h4,h5,h6,h7,h8,h9,h10,h11,h12,h13,h14,h15,h16,h17⟩:=h;have v1:=aQ c;have v2:=aQ sl;have v3:=aQ se;have v4:=aQ at';have v5:=aQ ha;have v6:=aQ el;have v7:=aQ es;have v8:=aQ bl;have v9:=aQ ma;have v10:=aQ mm;have v11:=aQ mo;have v12:=aQ mg;have v13:=aQ mh;have v14:=aQ wm;have v15:=aQ wo;have v16:=aQ wg;have v17:=aQ wh;rw[h1]at v1;rw[h2]at v2;rw[h3]at v3;rw[h4]at v4;rw[h5]at v5;rw[h6]at v6;rw[h7]at v7;rw[h8]at v8;rw[h9]at v9;rw[h10]at v10;rw[h11]at v11;rw[h12]at v12;rw[h13]at v13;rw[h14]at v14;rw[h15]at v15;rw[h16]at v16;rw[h17]at v17;have z2:aa [2]=true:=rfl;have z8:aa [8]=true:=rfl;have d1:=eB h1 z2;have d2:=eB h2 z2;have d3:=eB h3 z2;have d4:=eB h4 z2;have d5:=eB h5 z2;have d6:=eB h6 z2;have d7:=eB h7 z2;have d8:=eB h8 z2;have d9:=eB h9 z2;rw[show num ([2]:Bytes)=2 from rfl]at d1 d2 d3 d4 d5 d6 d7 d8 d9
 have d10:=eB z8 h14;rw[show num ([8]:Bytes)=8 from rfl]at d10
 have hm8:aF 25 [.s [8], .s at'] (.tup [N (num at'*8),E 0]):=by
  have:=IM [8] at';have hl:8*num at'<dP:=ba (show 8*num at'<(2^64)*8 by have:=cU la;omega) (by unfold dP;decide+kernel)
  rw[bw (num at')];simpa only[nC,h4,show aa [8]=true from rfl,dW,aA,show num [8]=8 from rfl,hl]using this
 have hv8:aa (aZ (num at'*8))=true:=kx (ba (show num at'*8<(2^64)*8 by have:=cU la;omega) (by decide+kernel))
 have f1:=eB h11 hv8;rw[aP]at f1;have f2:=eB h11 h1;have f3:=eB h11 h3;have tb:=CG h14 0 oC;have o8:=X5;have o2:=X4;generalize (num wm).testBit 0=t0 at*;generalize num at'*8=t8 at*;clear hv8 h1 h2 h3 h4 h5 h6 h7 h8 h9 h10 h11 h12 h13 h14 h15 h16 h17 z2 z8;refine eW call49 func49 ?_;repeat' first|simp only[go_sem,seval,iq,iW]|refine cP hn ?_|refine cP v1 ?_|refine cP v2 ?_|refine cP v3 ?_|refine cP v4 ?_|refine cP v5 ?_|refine cP v6 ?_|refine cP v7 ?_|refine cP v8 ?_|refine cP v9 ?_|refine cP v10 ?_|refine cP v11 ?_|refine cP v12 ?_|refine cP v13 ?_|refine cP v14 ?_|refine cP v15 ?_|refine cP v16 ?_|refine cP v17 ?_|refine cP o8 ?_|refine cP o2 ?_|refine cP c1 ?_|refine cP c2 ?_|refine cP c3 ?_|refine cP u1 ?_|refine cP u2 ?_|refine cP d1 ?_|refine cP d2 ?_|refine cP d3 ?_|refine cP d4 ?_|refine cP d5 ?_|refine cP d6 ?_|refine cP d7 ?_|refine cP d8 ?_|refine cP d9 ?_|refine cP d10 ?_|refine cP hm8 ?_|refine cP f1 ?_|refine cP f2 ?_|refine cP f3 ?_|refine cP tb ?_|(refine aj ?_)|refine oE ?_|apply xX<;>intro hc
 all_goals clear hn u1 u2 c1 c2 c3 v1 v2 v3 v4 v5 v6 v7 v8 v9 v10 v11 v12 v13 v14 v15 v16 v17 d1 d2 d3 d4 d5 d6 d7 d8 d9 d10 hm8 f1 f2 f3 tb o8 o2
 all_goals first|(simp_all;done)|(simp_all;omega)|skip
theorem E8 (p:cz) (hs:p.short):aF 49 [p.pv] (E (fB p)):=by
 by_cases h:p.eA.all aa=true
 ·exact RD p h hs
 ·have h:p.eA.all aa=false:=by simpa using h
  have e:fB p=3:=by unfold fB;rw[h];rfl
  rw[e];exact VT p h
