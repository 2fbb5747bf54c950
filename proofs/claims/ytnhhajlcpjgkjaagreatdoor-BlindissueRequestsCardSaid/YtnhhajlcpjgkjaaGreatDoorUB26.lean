/- Part of the proof. -/
import Derived.Test.YtnhhajlcpjgkjaaGreatDoorUB25
set_option linter.all false
set_option maxHeartbeats 16000000
set_option maxRecDepth 100000
namespace Go.Proofs.Tryz
open Go Go.Dom Go.Num
theorem HL (a:Bytes):aE 276 [.s a] (.b (aa a)):=by
 rw[wL];refine eW call276 func276 ?_;repeat' first|simp only[go_sem,seval]|refine oE ?_|apply xX<;>intro hc
 all_goals simp_all
 all_goals first|omega|(cases a<;>simp_all)
theorem Db {a:Bytes} {i:Nat} (h:i<a.length):(num (a.take i)%(2^64)*256%(2^64)+(a.getD i 0).toNat)%(2^64)=num (a.take (i+1))%(2^64):=by
 rw[kU h];omega
theorem Zb (a:Bytes) (la:a.length<1099511627776):aE 277 [.s a] (.tup [.i .u64 (num a%(2^64):Nat), .b (decide (a.length<=8))]):=by
 refine eW call277 func277 ?_;refine qi ?_;refine ak (α:=Nat) (fun i=>a.length-i) (fun i=>⟨[(0, .v (.s a)),(4, .v (.i .u64 (num (a.take i)%(2^64):Nat))),(5, .v (.i .i64 i))],[],_⟩) (fun i=>i<=a.length) 0 (fun _=>aD _) (aO _) ?_ ?_
 ·(refine AS.Le.of (by first|decide|omega) ?_ ?_<;>simp[dw,du,aS,aC,AV.bd,AV.bd.bdL,u8,an,ar,aA])
  all_goals rfl
 ·intro i hi R hR
  by_cases hlt:i<a.length
  ·have h1:=Db hlt;have hgo:=hR (i+1) oO oO;rw[<-h1]at hgo;clear h1 hR;obtain⟨u,hu⟩: ∃u,u=num (a.take i)%(2^64):=⟨_,rfl⟩;have hul:u<(2^64):=by rw[hu];exact aQ _ oC
   rw[<-hu]at hgo⊢;have hw1: ∀ _:True,IntKind.u64.wrap ((u:Int)*256)=((u*256%(2^64):Nat):Int):=fun _=>by rw[Bq];omega
   have hw2: ∀x:Nat,IntKind.u64.wrap (((u*256%(2^64):Nat):Int)+(x:Int))=(((u*256%(2^64)+x)%(2^64):Nat):Int):=fun x=>by rw[Bq];omega
   have hwb: ∀c:UInt8,IntKind.u64.wrap ((c.toNat:Nat):Int)=((c.toNat:Nat):Int):=fun c=>IntWalk.u64_in _ (by have:=c.toNat_lt;omega)
   exact jr (aN (hw1 oT) (aN @hw2 @hwb)) @hgo
  ·obtain rfl:i=a.length:=oO;rw[cl];have hd:decide ((a.length:Int)<=8)=decide (a.length<=8):=by rw[cX];simp only[bw];omega
   exact fP @hd
theorem Ak {a b m:Nat} (ha:a<m) (hb:b<m) (hm:m<(2^64)):aE 508 [.i .u64 a, .i .u64 b, .i .u64 m] (.i .u64 ((a+b)%m:Nat)):=by
 by_cases h:m<=a+b
 ·have e:(a+b)%m=a+b-m:=by rw[Nat.mod_eq_sub_mod h,bE oO]
  rw[e];refine eW call508 func508 ?_;repeat' first|simp only[go_sem,seval]|refine oE ?_|apply xX<;>intro hc
  all_goals first|rfl|(congr 1;omega)
 ·have e:(a+b)%m=a+b:=bE oO;rw[e];refine eW call508 func508 ?_;repeat' first|simp only[go_sem,seval]|refine oE ?_|apply xX<;>intro hc
  all_goals first|rfl|(congr 1;omega)
theorem sU {a b m:Nat} (ha:a<m) (hb:b<m) (hm:m<(2^64)):aE 466 [.i .u64 a, .i .u64 b, .i .u64 m] (.i .u64 (a*b%m:Nat)):=by
 by_cases h32:m<4294967296
 ·have hlt:a*b<4294967296*4294967296:=fO oO oO;have hw: ∀ _:True,IntKind.u64.wrap ((a:Int)*(b:Int))=((a*b:Nat):Int):=fun _=>by rw[<-Int.natCast_mul,IntWalk.u64_in _ oO]
  clear hlt;refine eW call466 func466 ?_;repeat' first|simp only[go_sem,seval,hw oT]|refine oE ?_|apply xX<;>intro hc
  all_goals skip
 ·refine eW call466 func466 ?_;refine qi ?_;refine ak (α:=Nat×Nat×Nat) (fun s=>s.2.2) (fun s=>⟨[(0,U s.2.1),(1,U s.2.2),(2,U m),(7,U s.1)],[],_⟩) (fun s=>s.1<m/\s.2.1<m/\s.2.2<(2^64)/\(s.1+s.2.1*s.2.2)%m=a*b%m) (0,a,b) (fun _=>aD _) ⟨by show 0<m;omega,ha,by show b< _;omega,by simp⟩ ?_ ?_
  ·exact lE
  ·rintro⟨u,x,y⟩ ⟨hu,hx,hy,he⟩ R hR;simp only at hu hx hy he
   by_cases h0:y=0
   ·subst h0;rw[Nat.mul_zero,Nat.add_zero,bE hu]at he;refine xF ?_;rw[he]
   ·have a1:=Ak hu hx hm;have a2:=Ak hx hx hm;have hm1:(u+x)%m<m:=aQ _ oO;have hm2:(x+x)%m<m:=aQ _ oO;have hy2:((y:Int)).tmod 2=((y%2:Nat):Int):=rfl;have hyd:y/2<=y:=fg _ _;have hxx: ∀k,(x+x)%m*k%m=x*(2*k)%m:=fun k=>by rw[jU,<-rN,bZ 2 x,cK]
    rcases(show y%2=1\/y%2=0 by omega)with g|g
    ·have he2:((u+x)%m+(x+x)%m*(y/2))%m=a*b%m:=by
      rw[<-he,jf,hxx,eE,<-jf];have:x*y=x+x*(2*(y/2)):=by
       have:y=1+2*(y/2):=oO
       conv=>lhs;rw[this,jW,dG]
      rw[this];congr 1;omega
     have hgo:=hR ((u+x)%m,(x+x)%m,y/2) ⟨hm1,hm2,by show y/2< _;omega,he2⟩ (by show y/2<y;omega)
     clear he he2 hR hxx;exact uZ (aN @hy2 @g) @hgo @a1 @a2
    ·have he2:(u+(x+x)%m*(y/2))%m=a*b%m:=by
      rw[<-he,jf,hxx,<-jf];have:x*y=x*(2*(y/2)):=by congr 1;omega
      rw[this]
     have hgo:=hR (u,(x+x)%m,y/2) ⟨hu,hm2,by show y/2< _;omega,he2⟩ (by show y/2<y;omega)
     clear he he2 hR hxx;exact uZ (aN @hy2 @g) @hgo @a1 @a2
theorem HK {a e m:Nat} (ha:a<m) (he:e<(2^64)) (hm:m<(2^64)):aE 465 [.i .u64 a, .i .u64 e, .i .u64 m] (.i .u64 (a^e%m:Nat)):=by
 have h0:0<m:=oO;have e1:(1:Int).tmod (m:Int)=((1%m:Nat):Int):=rfl;refine eW call465 func465 ?_;refine dH @e1 ?_;refine ak (α:=Nat×Nat×Nat) (fun s=>s.2.2) (fun s=>⟨[(0,U s.2.1),(1,U s.2.2),(2,U m),(7,U s.1)],[],_⟩) (fun s=>s.1<m/\s.2.1<m/\s.2.2<(2^64)/\s.1*s.2.1^s.2.2%m=a^e%m) (1%m,a,e) (fun _=>aD _) ⟨aQ _ h0,ha,he,by show 1%m*a^e%m= _;rw[jU,ie]⟩ ?_ ?_
 ·(refine AS.Le.of (by first|decide|omega) ?_ ?_<;>simp[dw,du,aS,aC,AV.bd,AV.bd.bdL,u8,an,ar,aA])
  all_goals first|rfl|skip
 ·rintro⟨u,x,y⟩ ⟨hu,hx,hy,hq⟩ R hR;simp only at hu hx hy hq
  by_cases h1:y=0
  ·subst h1;rw[Nat.pow_zero,dG,bE hu]at hq;refine xF ?_;rw[hq]
  ·have a1:=sU hu hx hm;have a2:=sU hx hx hm;have hm1:u*x%m<m:=aQ _ h0;have hm2:x*x%m<m:=aQ _ h0;have hy2:((y:Int)).tmod 2=((y%2:Nat):Int):=rfl;have hyd:y/2<=y:=fg _ _;rcases(show y%2=1\/y%2=0 by omega)with g|g
   ·have hgo:=hR (u*x%m,x*x%m,y/2) ⟨hm1,hm2,by show y/2< _;omega,by show u*x%m*(x*x%m)^(y/2)%m= _;rw[OE g,hq]⟩ (by show y/2<y;omega)
    clear hq hR;exact uZ (aN @hy2 @g) @hgo @a1 @a2
   ·have hgo:=hR (u,x*x%m,y/2) ⟨hu,hm2,by show y/2< _;omega,by show u*(x*x%m)^(y/2)%m= _;rw[Jo g,hq]⟩ (by show y/2<y;omega)
    clear hq hR;exact uZ (aN @hy2 @g) @hgo @a1 @a2
def T1 (n:Nat):Nat->Nat->Bool
 |0,_=>false
 |r+1,x=>x==n-1||T1 n r (x*x%n)
theorem PB (n:Nat): ∀r x,T1 n (r+1) x=(x==n-1||T3 r x n)
 |0,x=>rfl
 |r+1,x=>by rw[T1,PB n r];rfl
theorem HT {n a:Nat} (hn:n<(2^64)) (h3:3<=n) (hodd:n%2=1) (ha:a<n) (ha0:a≠0):aE 397 [.i .u64 n, .i .u64 a] (.b (oo n (GA 64 (n-1)) ((n-1)/2^GA 64 (n-1)) a)):=by
 have e1: ∀ _:True,((n:Int)-1)=((n-1:Nat):Int):=fun _=>oO
 have e2:(n:Int).tmod 2=((n%2:Nat):Int):=rfl;obtain⟨T,hT⟩: ∃T,T=GA 64 (n-1):=⟨_,rfl⟩;rw[<-hT];have hT0:T≠0:=by
  rw[hT];unfold GA;rw[af oO];omega
 refine eW call397 func397 ?_;repeat' first|simp only[go_sem,seval,e1 oT,e2,hodd]|refine oE ?_|apply xX<;>intro hc
 refine ak (α:=Nat×Nat) (fun s=>s.1) (fun s=>⟨[(0,U n),(1,U a),(5,U s.1),(6,E' s.2)],[],_⟩) (fun s=>0<s.1/\s.1<(2^64)/\s.2<=64/\s.1<2^(64-s.2)/\s.1=(n-1)/2^s.2/\GA (64-s.2) s.1+s.2=T) (n-1,0) (fun _=>aD _) ⟨by show 0<n-1;omega,by show n-1< _;omega,by show 0<=64;omega,by show n-1<2^64;omega,by show n-1= _;rw[Nat.pow_zero,iI],by rw[hT];rfl⟩ ?_ ?_
 ·exact lE
 ·rintro⟨d,s⟩ ⟨hd0,hd1,hs,hds,hde,ht⟩ R hR;simp only at hd0 hd1 hs hds hde ht;have ed:(d:Int).tmod 2=((d%2:Nat):Int):=rfl;have hs64:s<64:=by
   rcases lT s 64 with g|g
   ·exact g
   ·obtain rfl:s=64:=oO;simp at hds;omega
  obtain⟨f,hf⟩: ∃f,64-s=f+1:=⟨63-s,oO⟩;rw[hf]at hds ht;unfold GA at ht
  by_cases hev:d%2=0
  ·rw[af oO]at ht;have hdl:d/2<=d:=fg _ _;have hgo:=hR (d/2,s+1) ⟨by show 0<d/2;omega,by show d/2< _;omega,by show s+1<=64;omega,by
    show d/2<2^(64-(s+1));rw[show 64-(s+1)=f by omega];rw[Nat.pow_succ]at hds;omega,by
    show d/2=(n-1)/2^(s+1);rw[Nat.pow_succ,<-eZ,<-hde],by
    show GA (64-(s+1)) (d/2)+(s+1)=T;rw[show 64-(s+1)=f by omega];omega⟩ (by show d/2<d;omega)
   clear hR ht;exact jr (aN @ed @hev) @hgo
  ·have hev:d%2=1:=oO;rw[ah hev,ew]at ht;subst ht;rw[<-hde];have hx:=HK (a:=a) (e:=d) (m:=n) ha hd1 hn;have es:oo n s d a=(a^d%n==1||T1 n s (a^d%n)):=by
    unfold oo;rw[bE ha];obtain⟨r,hr⟩: ∃r,s=r+1:=⟨s-1,oO⟩;rw[hr,PB,rJ,Bool.or_assoc]
   rw[es];obtain⟨x,hxx⟩: ∃x,x=a^d%n:=⟨_,rfl⟩;have hxl:x<n:=by rw[hxx];exact aQ _ oO
   rw[<-hxx]at hx⊢;clear hR es hde hxx
   by_cases hx1:x=1
   ·subst hx1;repeat' first|simp only[go_sem,seval,ed,hev]|refine cP hx ?_|refine oE ?_|apply xX<;>intro hc
    all_goals skip
   have hb1:(x==1)=false:=by simpa using hx1
   have hb2:((x:Int)==1)=false:=by rw[dL];omega
   rw[hb1,jX];refine m9 (aN @ed (aN @hev @hb2)) @hx ?_;refine ak (α:=Nat×Nat) (fun s'=>s-s'.1) (fun s'=>⟨[(0,U n),(6,E' s),(7,U s'.2),(8,E' s'.1)],[],_⟩) (fun s'=>s'.1<=s/\s'.2<n/\T1 n (s-s'.1) s'.2=T1 n s x) (0,x) (fun _=>aD _) ⟨aO _,hxl,rfl⟩ ?_ ?_
   ·exact lE
   ·rintro⟨i,z⟩ ⟨hi,hz,hq⟩ R hR;simp only at hi hz hq;rw[<-hq]
    by_cases hlt:i<s
    ·have hmm:=sU hz hz hn;have hzz:z*z%n<n:=aQ _ oO;obtain⟨r,hr⟩: ∃r,s-i=r+1:=⟨s-i-1,oO⟩;have hgo:=hR (i+1,z*z%n);rw[hr]at hq⊢;simp only[T1]at hq⊢
     by_cases hzn:z=n-1
     ·have hb: ∀ _:True,((z:Int)==((n-1:Nat):Int))=true:=fun _=>by rw[hzn];simp
      have hb':(z==n-1)=true:=by simpa using hzn
      rw[hb',nT];clear hq hgo hR;exact fP (aN (e1 oT) (hb oT))
     ·have hb: ∀ _:True,((z:Int)==((n-1:Nat):Int))=false:=fun _=>by rw[dL];omega
      have hb':(z==n-1)=false:=by simpa using hzn
      rw[hb',jX]at hq⊢;rw[<-hq]at hgo;have hgo:=hgo ⟨by show i+1<=s;omega,hzz,by show T1 n (s-(i+1)) _= _;rw[show s-(i+1)=r by omega]⟩ (by show s-(i+1)<s-i;omega)
      clear hq hR;exact js (aN (e1 oT) (hb oT)) @hgo @hmm
    ·obtain rfl:i=s:=oO;rw[ic];exact z0
theorem Y3 {i:Nat} (h:i<12):(List.map (fun n:Nat=>PV.i .u64 (n:Int)) cH).getD i .fn0= .i .u64 (cH.getD i 0:Nat):=by
 have h2:i<cH.length:=h;simp[b9,h2]
theorem SI {n:Nat} (hn:n<(2^64)):aE 278 [.i .u64 n] (.b (fW n)):=by
 by_cases h2:n<2
 ·have e:fW n=false:=by simp[fW,h2]
  rw[e];refine eW call278 func278 ?_;exact z0
 obtain⟨B,hB⟩: ∃B,B=List.map (fun n:Nat=>PV.i .u64 (n:Int)) cH:=⟨_,rfl⟩
 have hBl:B.length=12:=by rw[hB];rfl
 have hBe: ∀ _:True,[PV.i .u64 2, .i .u64 3, .i .u64 5, .i .u64 7, .i .u64 11, .i .u64 13, .i .u64 17, .i .u64 19, .i .u64 23, .i .u64 29, .i .u64 31, .i .u64 37]=B:=fun _=>by rw[hB];rfl
 have hBc: ∀x∈B,x.cells.length=1:=by
  rw[hB];intro x hx;obtain⟨c,-,rfl⟩:=cE.1 hx;rfl
 have hBg: ∀{i:Nat},i<12->B.getD i .fn0= .i .u64 (cH.getD i 0:Nat):=fun h=>by rw[hB];exact Y3 h
 clear hB;refine eW call278 func278 ?_;refine dH (hBe oT) ?_;refine ak (α:=Nat) (fun i=>12-i) (fun i=>⟨[(0,U n),(3, .fs B),(4,E' i)],[],_⟩) (fun i=>i<=12/\cH.find? (fun p=>n%p==0)=(cH.drop i).find? (fun p=>n%p==0)) 0 (fun _=>aD _) ⟨oO,rfl⟩ ?_ ?_
 ·exact lE
 ·rintro i ⟨hi,hf⟩ R hR
  by_cases hlt:i<12
  ·have g1:=hBg hlt;obtain⟨q0,q1⟩:=Re hlt;rw[IA hlt]at hf;have hmc: ∀q:Nat,(n:Int).tmod (q:Int)=((n%q:Nat):Int):=fun q=>rfl
   generalize cH.getD i 0=q at*
   by_cases hq:n=q
   ·have hz:(n%q==0)=true:=by rw[hq];simp
    rw[List.find?_cons,hz]at hf;have e:fW n=true:=by
     unfold fW;rw[af h2,hf];simpa using hq
    rw[e];exact fP (aN @hBl (aN @g1 @hmc))
   ·by_cases hz0:n%q=0
    ·have hz:(n%q==0)=true:=by simpa using hz0
     rw[List.find?_cons,hz]at hf;have e:fW n=false:=by
      unfold fW;rw[af h2,hf];simpa using hq
     rw[e];exact fP (aN @hBl (aN @g1 (aN @hmc @hz0)))
    ·have hz:(n%q==0)=false:=by simpa using hz0
     rw[List.find?_cons,hz]at hf;have hgo:=hR (i+1) ⟨oO,hf⟩ oO;exact jr (aN @hBl (aN @g1 @hmc)) @hgo
  ·obtain rfl:i=12:=oO;have hf:cH.find? (fun p=>n%p==0)=none:=hf
   have hnd: ∀q∈cH,n%q≠0:=fun q hq=>by simpa using List.find?_eq_none.1 hf q hq
   have key:fW n=cH.all (oo n (GA 64 (n-1)) ((n-1)/2^GA 64 (n-1))):=by
    unfold fW;rw[af h2,hf]
   have h37:37<n:=by
    rcases lT 37 n with g|g
    ·exact g
    ·exfalso
     have: ∀k:Fin 38,2<=k.val-> ∃q∈cH,k.val%q=0:=by decide
     obtain⟨q,hq1,hq2⟩:=this ⟨n,oO⟩ (by show 2<=n;omega)
     exact hnd q hq1 hq2
   have hodd:n%2=1:=by have:=hnd 2 oC;omega
   rw[key];have hst:=fun a (h1:a<38) (h0:a≠0)=>HT (a:=a) hn oO hodd oO h0
   clear key hf hnd hR;generalize oo n (GA 64 (n-1)) ((n-1)/2^GA 64 (n-1))=st at*;refine dH @hBl ?_;refine ak (α:=Nat) (fun i=>12-i) (fun i=>⟨[(0,U n),(3, .fs B),(5,E' i)],[],_⟩) (fun i=>i<=12/\cH.all st=(cH.drop i).all st) 0 (fun _=>aD _) ⟨oO,rfl⟩ ?_ ?_
   ·exact lE
   ·rintro i ⟨hi,hf⟩ R hR
    by_cases hlt:i<12
    ·have g1:=hBg hlt;obtain⟨q0,q1⟩:=Re hlt;rw[IA hlt,List.all_cons]at hf;have hR1:=hR (i+1);generalize cH.getD i 0=q at*;have hs:=hst q q1 oO
     cases hsq:st q
     ·rw[hsq]at hs hf;rw[hf,cY];exact jE (aN @hBl @g1) @hs
     ·rw[hsq]at hs hf;rw[cq]at hf;have hgo:=hR1 ⟨oO,hf⟩ oO;exact js (aN @hBl @g1) @hgo @hs
    ·obtain rfl:i=12:=oO;have e:cH.all st=true:=hf;rw[e];exact fP @hBl
theorem HN (a:Bytes) (la:a.length<1099511627776):aE 146 [.s a] (.tup [.b (aa a&&decide (a.length<=8)&&fW (num a)),E (if aa a then(if a.length<=8 then 0 else 5)else 3)]):=by
 have hf:=HL a;have hu:=Zb a la
 by_cases hv:aa a=true
 ·rw[hv]at hf⊢
  by_cases h8:a.length<=8
  ·have hn:=dS h8;rw[aU h8,bE hn]at hu;have hi:=SI hn;rw[aU h8,ah rfl,ah h8];generalize fW (num a)=b at*;refine eW call146 func146 ?_;exact zs4 @hf @hu @hi oT
  ·rw[bu h8]at hu⊢;rw[ah rfl,af h8];refine eW call146 func146 ?_;exact Qb @hf @hu
 ·have hv:aa a=false:=by simpa using hv
  rw[hv]at hf⊢;refine eW call146 func146 ?_;exact Qk @hf
end Go.Proofs.Tryz
namespace Go.Proofs.Tryz
open Go Go.Dom Go.Num
variable {o x:Bytes}
theorem Yi {a b:Nat} (h:a<b):decide (aW a b>=0)=false:=bu (fun g=>by have:=fT.1 g;omega)
theorem Yj {a b:Nat} (h:b<=a):decide (aW a b>=0)=true:=aU (fT.2 h)
theorem dLt (a b:Nat):decide (aW a b<0)=decide (a<b):=by rw[cX];simp only[bw];exact fx
theorem Cb (m o:Bytes):aE 354 [G m o] (.b (aa m&&aa o)):=by
 have v1:=aH m;have v2:=aH o;refine eW call354 func354 ?_;exact Qb @v1 @v2
theorem Dh {m o:Bytes} (vm:aa m=true) (vo:aa o=true) (h0:0<num o):aE 355 [G m o] (.b (!(m==[])&&decide ((num m-1)%num o=0))):=by
 have lm:=dI vm;have lo:=dI vo
 by_cases hm:m=[]
 ·subst hm;refine eW call355 func355 ?_;exact fP @nn
 have hb:(m==([]:Bytes))=false:=by simpa using hm
 have hp:=nB (bL vm) hm;have h1:=mC m [1] oO oC hp;rw[show num ([1]:Bytes)=1 from rfl]at h1
 have h2:=qJ (a:=bQ (num m-1)) (b:=o) (fA _) (bL vo) h0 (by
  have:(bQ (num m-1)).length<=128:=jc.2 (by have:=jL vm;unfold da;omega)
  omega) oO
 rw[ba]at h2;have hz: ∀ _:True,(bQ ((num m-1)%num o)==([]:Bytes))=decide ((num m-1)%num o=0):=fun _=>by
  rw[cX];simp[fS]
 rw[hb];refine eW call355 func355 ?_;repeat' first|simp only[go_sem,seval,hb,hz oT]|refine cP h1 ?_|refine cP h2 ?_|refine oE ?_|apply xX<;>intro hc
 all_goals simp
theorem HG (m o:Bytes):aE 223 [G m o] (E (u9 m o)):=by
 have hf:=Cb m o
 by_cases hv:aa m=true/\aa o=true
 case neg=>
  have e:(aa m&&aa o)=false:=by rw[dn];intro g;simp at g;exact hv g
  rw[e]at hf;have e2:u9 m o=3:=by simp[u9,e]
  rw[e2];refine eW call223 func223 ?_;exact z1 @hf
 obtain⟨v1,v2⟩:=hv;have lm:=dI v1;have lo:=dI v2;have hm:=HN m oO;have ho:=HN o oO;rw[v1,v2]at hf;rw[v1]at hm;rw[v2]at ho;simp only[cq,aB]at hm ho
 by_cases l1:m.length<=8
 case neg=>
  have e2:u9 m o=5:=by simp[u9,v1,v2];intro g;omega
  rw[e2];refine eW call223 func223 ?_;exact z1 @hf
 rw[aU l1,ah l1,cq]at hm
 by_cases p1:fW (num m)=true
 case neg=>
  have p1:fW (num m)=false:=by simpa using p1
  have e2:u9 m o=12:=by simp[u9,v1,v2,p1,l1]
  rw[p1]at hm;rw[e2];refine eW call223 func223 ?_;exact z2 @hf @hm
 rw[p1]at hm
 by_cases l2:o.length<=8
 case neg=>
  have e2:u9 m o=13:=by simp[u9,v1,v2,p1,show¬8<m.length by omega,show 8<o.length by omega]
  rw[e2];refine eW call223 func223 ?_;exact z2 @hf @hm
 rw[aU l2,ah l2,cq]at ho
 by_cases p2:fW (num o)=true
 case neg=>
  have p2:fW (num o)=false:=by simpa using p2
  have e2:u9 m o=12:=by simp[u9,v1,v2,p1,p2,show¬8<m.length by omega,show¬8<o.length by omega]
  rw[p2]at ho;rw[e2];refine eW call223 func223 ?_;exact z4 @hf @hm @ho oT
 rw[p2]at ho;have h2:2<=num m:=by rcases lT (num m) 2 with g|g;simp[fW,g]at p1;exact g
 have h3:2<=num o:=by rcases lT (num o) 2 with g|g;simp[fW,g]at p2;exact g
 have hd:=Dh v1 v2 oO;have hb:(m==([]:Bytes))=false:=by simp;intro e;subst e;simp[num]at h2
 rw[hb]at hd;have e2:u9 m o=if(num m-1)%num o=0 then 0 else 13:=by simp[u9,v1,v2,p1,p2,show¬8<m.length by omega,show¬8<o.length by omega]
 rw[e2];generalize (num m-1)%num o=z at*;refine eW call223 func223 ?_;exact zs4 @hf @hm @ho @hd
theorem FO {m:Bytes} (lm:m.length<=8) (o x:Bytes):aE 233 [G m o, .s x] (.b (iw m o x)):=by
 have hf:=Cb m o;have vx:=aH x
 by_cases h:aa m=true/\aa o=true/\aa x=true/\o≠[]/\x≠[]
 ·obtain⟨v1,v2,v3,h4,h5⟩:=h;have e4:(o==([]:Bytes))=false:=by simpa using h4
  have e5:(x==([]:Bytes))=false:=by simpa using h5
  have hn:=dS lm;have lx:=dI v3;have hor:=fR (bL v3) (bL v1) oO oO;rw[v1,v2]at hf;rw[v3]at vx;have hx0:=nB (bL v3) h5
  by_cases h6:num x<num m
  ·have hE:=Y6 (a:=num x) (m:=num m) (e:=o) oO v2 hn oO;rw[dN v3,dN v1]at hE;have hlt: ∀ _:True,decide (aW (num x) (num m)>=0)=false:=fun _=>Yi oO
   have e:iw m o x=decide (num x^num o%num m=1):=by simp[iw,v1,v2,v3,e4,e5,h6,bE (show 1<num m by omega)]
   rw[e];generalize num x^num o%num m=z1 at*;refine eW call233 func233 ?_;exact wO (aN @e4 (aN @e5 (aN (hlt oT) @Oy))) @hf @vx @hor @hE
  ·have hlt: ∀ _:True,decide (aW (num x) (num m)>=0)=true:=fun _=>Yj oO
   have e:iw m o x=false:=by simp[iw,h6]
   rw[e];refine eW call233 func233 ?_;exact wO (aN @e4 (aN @e5 (hlt oT))) @hf @vx @hor oT
 ·have e:iw m o x=false:=by
   rw[dn];intro g;simp[iw]at g;exact h ⟨g.1.1.1.1.1.1,g.1.1.1.1.1.2,g.1.1.1.1.2,g.1.1.1.2,g.1.1.2⟩
  rw[e]
  by_cases hmo:(aa m&&aa o)=true
  case neg=>
   have hmo:(aa m&&aa o)=false:=by simpa using hmo
   rw[hmo]at hf;refine eW call233 func233 ?_;exact z2 @hf @vx
  rw[hmo]at hf
  by_cases v3:aa x=true
  case neg=>
   have v3:aa x=false:=by simpa using v3
   rw[v3]at vx;refine eW call233 func233 ?_;exact z2 @hf @vx
  rw[v3]at vx
  by_cases h4:o=[]
  ·subst h4;refine eW call233 func233 ?_;exact xi @nn @hf @vx
  ·have e4:(o==([]:Bytes))=false:=by simpa using h4
   by_cases h5:x=[]
   ·subst h5;refine eW call233 func233 ?_;exact xi (aN @nn @e4) @hf @vx
   ·simp only[aZ]at hmo;exact aP ⟨hmo.1,hmo.2,v3,h4,h5⟩ h
theorem FN {m:Bytes} (lm:m.length<=8) (o x:Bytes):aE 224 [G m o, .s x] (.b (iw m o x&& !(x==[1]))):=by
 have h:=FO lm o x;generalize iw m o x=z at*;refine eW call224 func224 ?_;exact Qk @h
theorem Y9:aE 68 [.i .u64 8] (.s [8]):=kB 8 oC
theorem FW:aE 68 [.i .u64 1] (.s [1]):=kB 1 oC
theorem aa0:aE 68 [.i .u64 2] (.s [2]):=kB 2 oC
theorem HE (m o:Bytes):aE 444 [G m o] (.b (eS m o)):=by
 have hv:=aH m
 by_cases h:aa m=true
 ·have hb:=Dj h 0 oC;have hcm:=gF m [8];rw[h]at hv;rw[h,show aa [8]=true from rfl,show num [8]=8 from rfl]at hcm
  have he:aW (num m) 8>0↔8<num m:=by unfold aW;split<;>(try split)<;>omega
  have h8:=Y9;refine eW call444 func444 ?_;repeat' first|simp only[go_sem,seval]|refine cP hv ?_|refine cP hb ?_|refine cP h8 ?_|refine cP hcm ?_|refine oE ?_|apply xX<;>intro hc
  all_goals simp_all[eS]
 ·have h:aa m=false:=by simpa using h
  rw[h]at hv;have e:eS m o=false:=by simp[eS,h]
  rw[e];refine eW call444 func444 ?_;exact z1 @hv
theorem Ls {m:Bytes} (lm:m.length<=8) (o x:Bytes):aE 358 [G m o, .s x] (.b (dK m o x)):=by
 have hg:=HE m o;have hv:=aH x;have h1':=FW
 by_cases h:eS m o=true/\aa x=true/\x≠[]/\num x<num m
 ·obtain⟨h1,h2,h3,h4⟩:=h;have hm:aa m=true:=by simp[eS]at h1;exact h1.1.1.1
  have hcm:=gF x m;rw[h2,hm]at hcm;simp only[cT,aB]at hcm;have hgc:=SF h2 hm;rw[h1]at hg;rw[h2]at hv;have hx:(x==([]:Bytes))=false:=by simpa using h3
  have hlt: ∀ _:True,decide (aW (num x) (num m)>=0)=false:=fun _=>Yi oO
  have e:dK m o x=decide (Nat.gcd (num x) (num m)=1):=by simp[dK,h1,h2,hx,h4]
  rw[e];refine eW call358 func358 ?_;repeat' first|simp only[go_sem,seval,hx,hlt oT,Oy]|refine cP hg ?_|refine cP hv ?_|refine cP hcm ?_|refine cP hgc ?_|refine cP h1' ?_|refine oE ?_|apply xX<;>intro hc
  all_goals first|rfl|simp|skip
 ·have e:dK m o x=false:=by
   rw[dn];intro g;simp[dK]at g;exact h ⟨g.1.1.1.1,g.1.1.1.2,g.1.1.2,g.1.2⟩
  rw[e]
  by_cases h1:eS m o=true
  case neg=>
   have h1:eS m o=false:=by simpa using h1
   rw[h1]at hg;refine eW call358 func358 ?_;exact z2 @hg @hv
  have hm:aa m=true:=by simp[eS]at h1;exact h1.1.1.1
  rw[h1]at hg
  by_cases h2:aa x=true
  case neg=>
   have h2:aa x=false:=by simpa using h2
   rw[h2]at hv;refine eW call358 func358 ?_;exact z2 @hg @hv
  rw[h2]at hv
  by_cases h3:x=[]
  ·subst h3;refine eW call358 func358 ?_;exact xi @nn @hg @hv
  have hx:(x==([]:Bytes))=false:=by simpa using h3
  have hcm:=gF x m;rw[h2,hm]at hcm;simp only[cT,aB]at hcm;have hlt: ∀ _:True,decide (aW (num x) (num m)>=0)=true:=fun _=>Yj (by by_cases g:num m<=num x;exact g;exact aP ⟨h1,h2,h3,oO⟩ h)
  refine eW call358 func358 ?_;exact wO (aN @hx (hlt oT)) @hg @hv @hcm oT
theorem Ai {m:Bytes} (lm:m.length<=8) (o x:Bytes):aE 227 [G m o, .s x] (.b (dK m o x&& !(x==[1]))):=by
 have h:=Ls lm o x;have h1':=FW;generalize dK m o x=z at*;refine eW call227 func227 ?_;exact Qb @h @h1'
theorem eY {y:Bytes} (h:aa x=true) (g:aa y=true):aE 226 [.s x, .s y] (.b (decide (num x<num y))):=by
 have hc:=gF x y;rw[h,g]at hc;simp only[cT,aB]at hc;have e: ∀ _:True,decide (aW (num x) (num y)<0)=decide (num x<num y):=fun _=>dLt _ _
 refine eW call226 func226 ?_;exact jE (e oT) @hc
theorem WG (p:cA) (h:p.eL.all aa=false):aE 106 [p.pv] (E 3):=by
 have hn:=yM p;obtain⟨c,sl,mm,mo,mg,mh,wm,wo,wg,wh,se,at',ha,el,es,bl,ma⟩:=p;unfold cA.pv cA.eL cA.Jj at*;simp only[bV,ca]at*;refine eW call106 func106 ?_;repeat' first|simp only[go_sem,seval,gO,gM]|refine cP hn ?_|refine cP (aH _) ?_|(refine aj ?_)|refine oE ?_|apply xX<;>intro hc
 all_goals (exfalso;simp_all)
theorem SD (p:cA) (h:p.eL.all aa=true) (hs:p.short):aE 106 [p.pv] (E (eN p)):=by
 have hn:=yM p;have lw:p.wm.length<=8:=hs _ (by simp[cA.eL])
 have lm:p.mm.length<=8:=hs _ (by simp[cA.eL])
 have la:p.at'.length<=8:=hs _ (by simp[cA.eL])
 have u1:=Ai lw p.wo p.wg;have u2:=Ai lw p.wo p.wh;have c1:=HG p.mm p.mo;have c2:=FN lm p.mo p.mg;have c3:=FN lm p.mo p.mh;have hoE:p.mo=[]->u9 p.mm p.mo≠0:=by
  intro e;rw[e];unfold u9
  split<;>(try split)<;>(try split)<;>simp_all[fW,num]
 have hwr: ∀x,(p.wo≠[]\/(num p.wm).testBit 0=false\/ ¬8<num p.wm)->(dK p.wm p.wo x&& !(x==[1]))=false:=by
  intro x hx;rw[dn];intro g;simp only[dK,eS,aZ,eD,bw]at g;rcases hx with h1|h1|h1
  ·exact h1 g.1.1.1.1.1.1.1.2
  ·rw[h1]at g;exact aP g.1.1.1.1.1.1.2 (by simp)
  ·exact h1 g.1.1.1.1.1.2
 have hw1:=hwr p.wg;have hw2:=hwr p.wh;clear hwr;unfold eN;rw[h];generalize (dK p.wm p.wo p.wg&& !(p.wg==[1]))=b1 at*;generalize (dK p.wm p.wo p.wh&& !(p.wh==[1]))=b2 at*;generalize (iw p.mm p.mo p.mg&& !(p.mg==[1]))=b3 at*;generalize (iw p.mm p.mo p.mh&& !(p.mh==[1]))=b4 at*;generalize u9 p.mm p.mo=e1 at*;clear hs;obtain⟨c,sl,mm,mo,mg,mh,wm,wo,wg,wh,se,at',ha,el,es,bl,ma⟩:=p;unfold cA.pv cA.eL cA.AG cA.Jj at*;simp only[bV,ca,List.all_cons,List.all_nil,aZ,gi]at*;obtain⟨h1,h2,h3,h4,h5,h6,h7,h8,h9,h10,h11,h12,h13,h14,h15,h16,h17⟩:=h;have v1:=aH c;have v2:=aH sl;have v3:=aH se;have v4:=aH at';have v5:=aH ha;have v6:=aH el;have v7:=aH es;have v8:=aH bl;have v9:=aH ma;have v10:=aH mm;have v11:=aH mo;have v12:=aH mg;have v13:=aH mh;have v14:=aH wm;have v15:=aH wo;have v16:=aH wg;have v17:=aH wh;rw[h1]at v1;rw[h2]at v2;rw[h3]at v3;rw[h4]at v4;rw[h5]at v5;rw[h6]at v6;rw[h7]at v7;rw[h8]at v8;rw[h9]at v9;rw[h10]at v10;rw[h11]at v11;rw[h12]at v12;rw[h13]at v13;rw[h14]at v14;rw[h15]at v15;rw[h16]at v16;rw[h17]at v17;have z2:aa [2]=true:=rfl;have z8:aa [8]=true:=rfl;have d1:=eY h1 z2;have d2:=eY h2 z2;have d3:=eY h3 z2;have d4:=eY h4 z2;have d5:=eY h5 z2;have d6:=eY h6 z2;have d7:=eY h7 z2;have d8:=eY h8 z2;have d9:=eY h9 z2;rw[show num ([2]:Bytes)=2 from rfl]at d1 d2 d3 d4 d5 d6 d7 d8 d9
 have d10:=eY z8 h14;rw[show num ([8]:Bytes)=8 from rfl]at d10
 have hm8:aE 228 [.s [8], .s at'] (.tup [N (num at'*8),E 0]):=by
  have:=Ju [8] at';have hl:8*num at'<da:=br (show 8*num at'<(2^64)*8 by have:=dS la;omega) (by unfold da;decide+kernel)
  rw[bZ (num at')];simpa only[oh,h4,show aa [8]=true from rfl,cT,aB,show num [8]=8 from rfl,hl]using this
 have hv8:aa (bQ (num at'*8))=true:=kI (br (show num at'*8<(2^64)*8 by have:=dS la;omega) (by decide+kernel))
 have f1:=eY h11 hv8;rw[ba]at f1;have f2:=eY h11 h1;have f3:=eY h11 h3;have tb:=Dj h14 0 oC;have o8:=Y9;have o2:=aa0;generalize (num wm).testBit 0=t0 at*;generalize num at'*8=t8 at*;clear hv8 h1 h2 h3 h4 h5 h6 h7 h8 h9 h10 h11 h12 h13 h14 h15 h16 h17 z2 z8;refine eW call106 func106 ?_;repeat' first|simp only[go_sem,seval,gO,gM]|refine cP hn ?_|refine cP v1 ?_|refine cP v2 ?_|refine cP v3 ?_|refine cP v4 ?_|refine cP v5 ?_|refine cP v6 ?_|refine cP v7 ?_|refine cP v8 ?_|refine cP v9 ?_|refine cP v10 ?_|refine cP v11 ?_|refine cP v12 ?_|refine cP v13 ?_|refine cP v14 ?_|refine cP v15 ?_|refine cP v16 ?_|refine cP v17 ?_|refine cP o8 ?_|refine cP o2 ?_|refine cP c1 ?_|refine cP c2 ?_|refine cP c3 ?_|refine cP u1 ?_|refine cP u2 ?_|refine cP d1 ?_|refine cP d2 ?_|refine cP d3 ?_|refine cP d4 ?_|refine cP d5 ?_|refine cP d6 ?_|refine cP d7 ?_|refine cP d8 ?_|refine cP d9 ?_|refine cP d10 ?_|refine cP hm8 ?_|refine cP f1 ?_|refine cP f2 ?_|refine cP f3 ?_|refine cP tb ?_|(refine aj ?_)|refine oE ?_|apply xX<;>intro hc
 all_goals clear hn u1 u2 c1 c2 c3 v1 v2 v3 v4 v5 v6 v7 v8 v9 v10 v11 v12 v13 v14 v15 v16 v17 d1 d2 d3 d4 d5 d6 d7 d8 d9 d10 hm8 f1 f2 f3 tb o8 o2
 all_goals first|(simp_all;done)|(simp_all;omega)|skip
theorem nF (p:cA) (hs:p.short):aE 106 [p.pv] (E (eN p)):=by
 by_cases h:p.eL.all aa=true
 ·exact SD p h hs
 ·have h:p.eL.all aa=false:=by simpa using h
  have e:eN p=3:=by unfold eN;rw[h];rfl
  rw[e];exact WG p h
theorem OV (n:Bytes) (hn:n.length<=60):aE 108 [.s n] (.b (mP n)):=by
 refine eW call108 func108 ?_;refine qi ?_;refine ak (α:=Nat) (fun i=>n.length-i) (fun i=>⟨[(0, .v (.s n)),(3, .v (.i .i64 (i:Nat)))],[],_⟩) (fun i=>i<=n.length/\ ∀j,j<i->vw j (Ko n j)=false) 0 (fun _=>aD _) ⟨aO _,fun j hj=>oO⟩ ?_ ?_
 ·exact lE
 ·rintro i ⟨hi,ha⟩ R hR
  by_cases hlt:i<n.length
  ·have hlt':(i:Int)<n.length:=oO;have hbad:vw i (Ko n i)=true->mP n=false:=by
    intro h;unfold mP;have:(List.range n.length).all (fun i=> !vw i (Ko n i))=false:=by
     rw[dn];intro g;have:=bH.1 g i (fN.2 hlt);rw[h]at this;cases this
    rw[this];rfl
   have hgo:vw i (Ko n i)=false-> ∀s',(AS.mk [(0, .v (.s n)),(3, .v (.i .i64 ((i+1:Nat):Int)))] [] 1002).Le s'->R s':=by
    intro h s' hs;refine hR (i+1) ⟨oO,fun j hj=> ?_⟩ oO s' hs
    by_cases e:j=i
    ·subst e;exact h
    ·exact ha j oO
   clear hR ha;obtain⟨c,hcc⟩: ∃c,Ko n i=c:=⟨_,rfl⟩;have hcd:((n.getD i 0).toNat:Int)=c:=hcc;have h0:0<=c/\c<256:=by rw[<-hcd];have:=(n.getD i 0).toNat_lt;omega
   rw[hcc]at hbad hgo;unfold vw at hbad hgo;obtain⟨b1,h1⟩: ∃b,decide (c>=97)=b:=⟨_,rfl⟩;obtain⟨b2,h2⟩: ∃b,decide (c<=122)=b:=⟨_,rfl⟩;obtain⟨b3,h3⟩: ∃b,decide (c>=65)=b:=⟨_,rfl⟩;obtain⟨b4,h4⟩: ∃b,decide (c<=90)=b:=⟨_,rfl⟩;obtain⟨b5,h5⟩: ∃b,((i:Int)==0)=b:=⟨_,rfl⟩;obtain⟨b6,h6⟩: ∃b,(c !=95)=b:=⟨_,rfl⟩;obtain⟨b7,h7⟩: ∃b,decide (c<48)=b:=⟨_,rfl⟩;obtain⟨b8,h8⟩: ∃b,decide (c>57)=b:=⟨_,rfl⟩;rw[h1,h2,h3,h4,h5,h6,h7,h8]at hbad hgo;have e1:decide ((i:Int)<(n.length:Int))=true:=aU hlt';repeat' first|simp only[go_sem,seval,hcd,h1,h2,h3,h4,h5,h6,h7,h8,e1]|refine oE ?_|apply xX<;>intro hc
   all_goals clear h1 h2 h3 h4 h5 h6 h7 h8 hcd hcc h0
   all_goals try simp only[ey,yD]at*
   all_goals subst_vars
   all_goals first
     |(refine hgo rfl _ ?_;(refine AS.Le.of (by first|decide|omega) ?_ ?_<;>simp[dw,du,aS,aC,AV.bd,AV.bd.bdL,u8,an,ar,aA]);done)
     |(rw[hbad rfl];done)
     |(cases b6<;>first|(simp at hc;done)|(refine hgo rfl _ ?_;(refine AS.Le.of (by first|decide|omega) ?_ ?_<;>simp[dw,du,aS,aC,AV.bd,AV.bd.bdL,u8,an,ar,aA]);done)|(rw[hbad rfl];done)|fail)
     |fail
  ·obtain rfl:i=n.length:=oO;have e:mP n=(!(n==[])&&decide (n.length<=32)):=by
    unfold mP;have:(List.range n.length).all (fun i=> !vw i (Ko n i))=true:=by
     rw[bH];intro j hj;rw[ha j (fN.1 hj)];rfl
    rw[this,cq]
   rw[e];have e2:decide ((n.length:Int)<=32)=decide (n.length<=32):=by rw[fh];omega
   clear ha hR e;exact zs0
theorem KQ {m:Bytes} (hm:m≠[]):(m.getD (m.length-1) 0).toNat%2=num m%2:=by
 obtain⟨r,c,rfl⟩: ∃r c,m=r++[c]:=⟨_,_,(JY hm).symm⟩;rw[zV];have:(r++[c]).getD ((r++[c]).length-1) 0=c:=by simp[b9]
 rw[this];omega
theorem nG {m:Bytes} (lm:m.length<=8) (lo:o.length<=8):aE 109 [G m o] (E (gE m o)):=by
 have v1:=aH m;have v2:=aH o;unfold gE
 by_cases hv:aa m=true/\aa o=true
 case neg=>
  have:(aa m&&aa o)=false:=by rw[dn];intro g;simp at g;exact hv g
  rw[this];generalize aa m=b1 at*;generalize aa o=b2 at*;refine eW call109 func109 ?_;exact Qb @v1 @v2
 obtain⟨vm,vo⟩:=hv;have nm:=dS lm;have no:=dS lo;rw[vm]at v1;rw[vo]at v2
 by_cases ho:o=[]
 ·subst ho;have e0:(if !(aa m&&aa [])then(3:Int)else if(([]:Bytes)==[])then(if eS m []then 0 else 13)else if num m<=1\/num []<=1\/(num m-1)%num []≠0 then 13 else 0)=if eS m []then 0 else 13:=by
   rw[vm];rfl
  rw[e0]
  by_cases hm:m=[]
  ·subst hm;have:eS [] []=false:=by decide
   rw[this];refine eW call109 func109 ?_;exact xi @nn @v1 @v2
  have hb:(m==([]:Bytes))=false:=by simpa using hm
  have hl:=KQ hm;have hlen:0<m.length:=je.2 hm;have hix: ∀ _:True,((m.length:Int)-1).toNat=m.length-1:=fun _=>oO
  have hmod: ∀c:UInt8,((c.toNat:Nat):Int).tmod 2=((c.toNat%2:Nat):Int):=fun c=>rfl
  have ho8:=fR (a:=m) (b:=[8]) (bL vm) (.inr oC) oO oC;rw[show num ([8]:Bytes)=8 from rfl]at ho8
  have hle: ∀ _:True,decide (aW (num m) 8<=0)= !decide (8<num m):=fun _=>by
   rw[cX];simp only[bw,ey,mw];unfold aW;split<;>(try split)<;>omega
  have hg:eS m []=(decide (num m%2=1)&&decide (8<num m)):=by
   unfold eS;rw[vm,lf,Nat.pow_zero,iI];rfl
  rw[hg,<-hl];generalize aW (num m) 8=cm at*;obtain⟨c,hcc⟩: ∃c,c=m.getD (m.length-1) 0:=⟨_,rfl⟩;rw[<-hcc];clear hl hg e0;refine eW call109 func109 ?_;repeat' first|simp only[go_sem,seval,nn,hb,hix oT,<-hcc,hmod,hle oT]|refine cP v1 ?_|refine cP v2 ?_|refine cP ho8 ?_|refine oE ?_|apply xX<;>intro hc
  all_goals first|(simp_all;done)|(simp_all;omega)|skip
 have hb:(o==([]:Bytes))=false:=by simpa using ho
 have hop:num o≠0:=fun e=>ho ((uh vo).1 e)
 have e1:N (num m)= .s m:=congrArg PV.s (fk vm);have e2:N (num o)= .s o:=congrArg PV.s (fk vo);rw[vm,vo,hb];simp only[cT,cr,bM,az];have q0:(m==([]:Bytes))=decide (num m=0):=by
  have:=yV (num m) 0;rw[fk vm]at this;exact this
 have q1:(m==([1]:Bytes))=decide (num m=1):=by
  have:=yV (num m) 1;rw[fk vm]at this;exact this
 have q2:(o==([1]:Bytes))=decide (num o=1):=by
  have:=yV (num o) 1;rw[fk vo]at this;exact this
 by_cases hbad:num m=0\/num m=1\/num o=1
 ·rw[ah oO];refine eW call109 func109 ?_;repeat' first|simp only[go_sem,seval,hb,q0,q1,q2]|refine cP v1 ?_|refine cP v2 ?_|refine oE ?_|apply xX<;>intro hc
  all_goals (exfalso;simp_all)
 have h1:=mC m [1] oO oC (show 1<=num m by omega)
 rw[show num ([1]:Bytes)=1 from rfl]at h1
 have h2:=qJ (a:=bQ (num m-1)) (b:=o) (fA _) (bL vo) oO (by
  have:=lN (show num m-1<(2^64) by omega)
  omega) oO
 rw[ba]at h2;have hz: ∀ _:True,(bQ ((num m-1)%num o)==([]:Bytes))=decide ((num m-1)%num o=0):=fun _=>by
  rw[cX];simp[fS]
 have t0:decide (num m=0)=false:=bu oO;have t1:decide (num m=1)=false:=bu oO;have t2:decide (num o=1)=false:=bu oO;have ei:(if num m<=1\/num o<=1\/(num m-1)%num o≠0 then(13:Int)else 0)=if(num m-1)%num o=0 then 0 else 13:=by
  by_cases g:(num m-1)%num o=0
  ·rw[af oO,ah g]
  ·rw[ah oO,af g]
 rw[ei];refine eW call109 func109 ?_;exact Xm (aN @hb (aN @q0 (aN @q1 (aN @q2 (aN @t0 (aN @t1 (aN @t2 (hz oT)))))))) @v1 @v2 @h1 @h2
theorem B8 {m:Bytes} (lm:m.length<=8) (o:Bytes) (hE:gE m o=0) (vx:aa x=true):aE 115 [G m o, .s x] (.b (jJ m o x)):=by
 by_cases ho:o=[]
 ·subst ho;obtain⟨vm,-,m1,hr,-⟩:=lO hE;have hg:=hr rfl;have lx:=dI vx;have hor:=fR (bL vx) (bL vm) oO oO;have hcm:=FQ (jL vx) (jL vm);rw[dN vx,dN vm]at hcm;have hlt: ∀ _:True,decide (aW (num x) (num m)<0)=decide (num x<num m):=fun _=>dLt _ _
  have e:jJ m [] x=(!(x==[])&&decide (num x<num m)&&decide (Nat.gcd (num x) (num m)=1)):=by
   simp[jJ,dK,hg,vx]
  rw[e];generalize aW (num x) (num m)=cm at*;refine eW call115 func115 ?_;repeat' first|simp only[go_sem,seval,nn,hlt oT,Oy]|refine cP hor ?_|refine cP hcm ?_|refine oE ?_|apply xX<;>intro hc
  all_goals simp_all
  all_goals (intros;omega)
 ·have hb:(o==([]:Bytes))=false:=by simpa using ho
  have h:=FO lm o x;unfold jJ;rw[hb];simp only[bM,az];refine eW call115 func115 ?_;exact jE @hb @h
theorem oQ {m:Bytes} (lm:m.length<=8) (lo:o.length<=8) (x:Bytes):aE 110 [G m o, .s x] (.b (xq m o x)):=by
 have h1:=nG lm lo;have hv:=aH x
 by_cases hE:gE m o=0
 ·rw[hE]at h1
  by_cases vx:aa x=true
  ·have h2:=B8 lm o hE vx;rw[vx]at hv;unfold xq;rw[hE];generalize jJ m o x=b at*;refine eW call110 func110 ?_;exact zs4 @h1 @hv @h2 oT
  ·have vx:aa x=false:=by simpa using vx
   rw[vx]at hv;have:xq m o x=false:=by
    rw[dn];intro g;simp only[xq,aZ]at g;have:=((cJ hE).1 g.2).1;rw[vx]at this;cases this
   rw[this];refine eW call110 func110 ?_;exact z2 @h1 @hv
 ·have:xq m o x=false:=by simp[xq,hE]
  rw[this];generalize gE m o=z at*;refine eW call110 func110 ?_;exact Qk @h1
theorem Lt {m:Bytes} (lm:m.length<=8) {x:Nat} {ng:Bool} {e:Bytes} (hE:gE m o=0) (hx:GP m o x) (he:aa e=true) (hz:(ng&&e==[])=false):aE 117 [G m o,N x, .agg [.b ng, .s e]] (N (dJ (num m) x ng (num e))):=by
 obtain⟨vm,-,m1,-,-⟩:=lO hE;have hp:=LA (m:=num m) hx.lt he hz (dS lm) hx.TC;rw[dN vm]at hp;refine eW call117 func117 ?_;exact z1 @hp
noncomputable def oN (M:Nat):Nat->List (Nat×Bool×Bytes)->Nat
 |x,[]=>x
 |x,(a,ng,e)::r=>oN M (x*dJ M a ng (num e)%M) r
def sJ (p:Nat×Bool×Bytes):PV:= .agg [.b p.2.1, .s p.2.2]
theorem im {m:Bytes} (lm:m.length<=8) (lo:o.length<=8) (hE:gE m o=0) (l:List (Nat×Bool×Bytes)) (hl:l.length<1000000) (h: ∀p∈l,GP m o p.1/\aa p.2.2=true/\(p.2.1&&p.2.2==[])=false):aE 49 [G m o, .sl (l.map fun p=>N p.1), .sl (l.map sJ)] (.tup [N (oN (num m) 1 l),E 0]):=by
 obtain⟨vm,-,m1,-,-⟩:=lO hE;have nm:=dS lm;have hck:=nG lm lo;rw[hE]at hck;have d0:Nat×Bool×Bytes:=(0,false,[]);have l1:(l.map fun p=>N p.1).length=l.length:=aG ..
 have l2:(l.map sJ).length=l.length:=aG ..;have g1: ∀{i:Nat},i<l.length->(l.map fun p=>N p.1).getD i .fn0=N (l.getD i d0).1:=fun hi=>getD_map (fun p=>N p.1) l d0 hi
 have g2: ∀{i:Nat},i<l.length->(l.map sJ).getD i .fn0=sJ (l.getD i d0):=fun hi=>getD_map sJ l d0 hi
 refine eW call49 func49 ?_;refine qi ?_;refine ak (α:=Nat) (fun i=>l.length-i) (fun i=>⟨[(1, .v (.sl (l.map fun p=>N p.1))),(2, .v (.sl (l.map sJ))),(3, .p 1000 0 0),(8,E' i)],[(1000,⟨0,[.v (.s m), .v (.s o)],false,none⟩)],_⟩) (fun i=>i<=l.length) 0 (fun _=>aD _) (aO _) ?_ ?_
 ·exact lE
 ·intro i hi R hR
  by_cases hlt:i<l.length
  ·obtain⟨k1,k2,k3⟩:=h _ (au d0 hlt);have e1:=g1 hlt;have hv:=aH (bQ (l.getD i d0).1);have:=k1.lt;rw[vN (show(l.getD i d0).1<(2^64) by omega)]at hv
   clear k1 k2 k3 this;have hgo:=hR (i+1) oO oO;exact js (aN @l1 @e1) @hgo @hv
  ·obtain rfl:i=l.length:=oO;refine dH @l1 ?_;refine ak (α:=Nat) (fun i=>l.length-i) (fun i=>⟨[(1, .v (.sl (l.map fun p=>N p.1))),(2, .v (.sl (l.map sJ))),(3, .p 1000 0 0),(9,E' i)],[(1000,⟨0,[.v (.s m), .v (.s o)],false,none⟩)],_⟩) (fun i=>i<=l.length) 0 (fun _=>aD _) (aO _) ?_ ?_
   ·exact lE
   ·intro i hi R hR
    by_cases hlt:i<l.length
    ·obtain⟨k1,k2,k3⟩:=h _ (au d0 hlt);have e1:=g2 hlt;have hv:=iE (l.getD i d0).2.1 (l.getD i d0).2.2;rw[k2,k3]at hv;clear k1 k2 k3;have hgo:=hR (i+1) oO oO;repeat' first|simp only[go_sem,seval,l2,e1,sJ]|refine cP hv ?_|refine oE ?_|apply xX<;>intro hc
     refine hgo _ ?_;exact lE
    ·obtain rfl:i=l.length:=oO;refine m9 (aN @l1 @l2) @hck ?_;refine ak (α:=Nat) (fun i=>l.length-i) (fun i=>⟨[(1, .v (.sl (l.map fun p=>N p.1))),(2, .v (.sl (l.map sJ))),(3, .p 1000 0 0),(11,E' i)],[(1000,⟨0,[.v (.s m), .v (.s o)],false,none⟩)],_⟩) (fun i=>i<=l.length) 0 (fun _=>aD _) (aO _) ?_ ?_
     ·exact lE
     ·intro i hi R hR
      by_cases hlt:i<l.length
      ·obtain⟨k1,k2,k3⟩:=h _ (au d0 hlt);have e1:=g1 hlt;have hh:=k1.has hE lm;have hv:=B8 lm o (x:=bQ (l.getD i d0).1) hE ((cJ hE).1 hh).1;rw[hh]at hv;clear k1 k2 k3 hh;have hgo:=hR (i+1) oO oO;exact js (aN @l1 @e1) @hgo @hv
      ·obtain rfl:i=l.length:=oO;refine dH @l1 ?_;refine ak (α:=Nat×Nat) (fun s=>l.length-s.1) (fun s=>⟨[(1, .v (.sl (l.map fun p=>N p.1))),(2, .v (.sl (l.map sJ))),(3, .p 1000 0 0),(12, .v (N s.2)),(13,E' s.1)],[(1000,⟨0,[.v (.s m), .v (.s o)],false,none⟩)],_⟩) (fun s=>s.1<=l.length/\s.2<num m/\oN (num m) s.2 (l.drop s.1)=oN (num m) 1 l) (0,1) (fun _=>aD _) ⟨aO _,m1,rfl⟩ ?_ ?_
       ·(refine AS.Le.of (by first|decide|omega) ?_ ?_<;>simp[dw,du,aS,aC,AV.bd,AV.bd.bdL,u8,an,ar,aA])
        all_goals rfl
       ·rintro⟨i,x⟩ ⟨hi,hx,hf⟩ R hR;simp only at hi hx hf
        by_cases hlt:i<l.length
        ·obtain⟨k1,k2,k3⟩:=h _ (au d0 hlt);have e1:=g1 hlt;have e2:=g2 hlt;rw[aY d0 hlt]at hf;have hraw:=Lt lm hE k1 k2 k3;have hpl:dJ (num m) (l.getD i d0).1 (l.getD i d0).2.1 (num (l.getD i d0).2.2)<num m:=aQ _ oO;have hgo:=hR (i+1,x*dJ (num m) (l.getD i d0).1 (l.getD i d0).2.1 (num (l.getD i d0).2.2)%num m) ⟨by show i+1<= _;omega,aQ _ oO,hf⟩ (by show l.length-(i+1)<l.length-i;omega)
         clear hf hR k1 k2 k3;generalize dJ (num m) (l.getD i d0).1 (l.getD i d0).2.1 (num (l.getD i d0).2.2)=y at*;have hmm:=Y7 (a:=x) (b:=y) (m:=num m) oO oO nm oO;rw[dN vm]at hmm;repeat' first|simp only[go_sem,seval,l1,l2,e1,e2,sJ]|refine cP hraw ?_|refine cP hmm ?_|refine oE ?_|apply xX<;>intro hc
         refine hgo _ ?_;exact lE
        ·obtain rfl:i=l.length:=oO;rw[dj]at hf;simp only[oN]at hf;rw[<-hf];exact fP @l1
