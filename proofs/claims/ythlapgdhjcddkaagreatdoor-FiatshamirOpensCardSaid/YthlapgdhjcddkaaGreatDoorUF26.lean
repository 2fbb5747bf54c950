/- Part of the proof. -/
import Derived.Test.YthlapgdhjcddkaaGreatDoorUF23
set_option linter.all false
set_option maxHeartbeats 8000000
set_option maxRecDepth 100000
namespace Go.Proofs.Tryz
open Go Go.Dom
theorem SK {l:Bytes} {x:Nat} (h:x<l.length):(l.map u8).getD x .fn0=u8 (l.getD x 0):=by
 simp[bu,h]
end Go.Proofs.Tryz
namespace Go.Dom
theorem MK (k n:Nat):be k n=be k (n%256^k):=by
 have h1:num (be k n)=num (be k (n%256^k)):=by rw[AF,AF,eQ]
 have h2:=Df (be k n);have h3:=Df (be k (n%256^k));rw[cX]at h2 h3;rw[<-h2,h1,h3]
theorem Wo {n j Q c:Nat} (hj:j<n) (hc:Q/256^j%256+c<256):(be n Q).set (n-1-j) (UInt8.ofNat (Q/256^j%256+c))=be n (Q+c*256^j):=by
 obtain⟨k,rfl⟩: ∃k,n=k+(j+1):=⟨n-j-1,by omega⟩
 have hp:0<256^j:=jU j;have h1:(Q+c*256^j)/256^j=Q/256^j+c:=Nat.add_mul_div_right _ _ hp;have h2:(Q+c*256^j)/256^(j+1)=Q/256^(j+1):=by
  rw[Nat.pow_succ,<-ff,<-ff,h1];omega
 have h3:be j (Q+c*256^j)=be j Q:=by rw[MK,Nat.add_mul_mod_self_right,<-MK]
 rw[zI k (j+1),zI k (j+1),h2,show k+(j+1)-1-j=k by omega]
 have hl:(be k (Q/256^(j+1))).length=k:=cX _ _;have:=J0 (be k (Q/256^(j+1))) (be j Q) (UInt8.ofNat (Q/256^j)) (UInt8.ofNat (Q/256^j%256+c));rw[hl]at this;simp only[be,h1,h3];rw[this];congr 2;exact ofNat_mod (by omega)
theorem FP (A i:Nat):A/2^i=2*(A/2^(i+1))+A/2^i%2:=by
 rw[Nat.pow_succ,<-ff];omega
theorem Nr {z t B:Nat} (hB:0<B) (ht:t<2):(2*z+t)/B=2*(z/B)+(if B<=2*(z%B)+t then 1 else 0)/\(2*z+t)%B=(if B<=2*(z%B)+t then 2*(z%B)+t-B else 2*(z%B)+t):=by
 have h1:=jc z B;have h2:=aV z hB;generalize z/B=q at*;generalize z%B=r at*;have e:2*z+t=B*(2*q)+(2*r+t):=by
  have:B*(2*q)=2*(B*q):=by rw[EC]
  omega
 split
 ·have e2:2*z+t=(2*r+t-B)+B*(2*q+1):=by rw[kN,dr];omega
  constructor
  ·rw[e2,oZ _ _ hB,iZ (by omega)];omega
  ·rw[e2,yP,bV (by omega)]
 ·constructor
  ·rw[e,iM,oZ _ _ hB,iZ (by omega)];omega
  ·rw[e,iM,yP,bV (by omega)]
theorem MM {Q i:Nat}:Q*2^(i+1)/256^(i/8)%256+2^(i%8)<256:=by
 have h8:i%8<8:=aV _ (by decide)
 have e1:256^(i/8)=2^(8*(i/8)):=by rw[show 256=2^8 from rfl,<-kR]
 have e2:Q*2^(i+1)/256^(i/8)=Q*2^(i%8+1):=by
  rw[e1,show i+1=(i%8+1)+8*(i/8) by omega,dD 2 (i%8+1),<-de,EV _ (iJ (by decide))]
 rw[e2];generalize i%8=e at h8;have:e=0\/e=1\/e=2\/e=3\/e=4\/e=5\/e=6\/e=7:=by omega
 rcases this with rfl|rfl|rfl|rfl|rfl|rfl|rfl|rfl<;>simp only[Nat.reduceAdd,Nat.reducePow]<;>omega
theorem ML {i:Nat}:2^(i%8)*256^(i/8)=2^i:=by
 rw[show 256=2^8 from rfl,<-kR,<-dD];congr 1;omega
end Go.Dom
namespace Go.Proofs.Tryz
open Go Go.Dom
theorem aU (a:Bytes):aH 45 [.s a] (.b (ae a)):=by
 rw[xj];refine eW call45 func45 ?_;repeat' first|simp only[go_sem,seval]|refine oE ?_|apply xX<;>intro hc
 all_goals simp_all
 all_goals first|omega|(cases a<;>simp_all)
theorem Iz (l:Bytes) {i:Nat} (hi:i<l.length) (h:l.getD i 0=0):gp (l.drop i)=gp (l.drop (i+1)):=by
 rw[kJ hi,gp,af (by rw[<-h,bu,bC hi];rfl)]
theorem IA (l:Bytes) {i:Nat} (hi:i<l.length) (h:l.getD i 0≠0):gp (l.drop i)=l.drop i:=by
 rw[kJ hi,gp,aa (by rw[bu,bC hi]at h;exact h)]
theorem rh (l:Bytes) (hl:l.length<4611686018427387904):aH 102 [.sl (l.map u8)] (.s (gp l)):=by
 refine eW call102 func102 ?_;simp only[go_sem,seval];refine ah (α:=Nat) (fun i=>l.length-i) (fun i=>⟨[(0, .v (.sl (l.map u8))),(3, .v (.i .i64 i))],[],_⟩) (fun i=>i<=l.length/\gp (l.drop i)=gp l) 0 (fun _=>aA _) ⟨aD _,rfl⟩ ?_ ?_
 ·exact lE
 ·rintro i ⟨hi,hx⟩ R hR
  by_cases hlt:i<l.length
  ·have e1:=SK hlt
   by_cases h0:l.getD i 0=0
   ·have e2: ∀ _:True,(((l.getD i 0).toNat:Int)==0)=true:=fun _=>by rw[h0];rfl
    refine dw (aN @e1 (e2 oT)) ?_;refine hR (i+1) ⟨oO,by rw[<-hx,Iz l hlt h0]⟩ oO _ ?_
    exact lE
   ·have e2: ∀ _:True,(((l.getD i 0).toNat:Int)==0)=false:=fun _=>by
     rw[du];intro e;exact h0 (u8z e)
    rw[<-hx,IA l hlt h0];refine dw (aN @e1 (e2 oT)) ?_;refine⟨⟨oO,fun x hx=>zN hx⟩,fun y hy=>wF (qu hy),?_⟩
    rw[<-vL,zK]
  ·obtain rfl:i=l.length:=oO;rw[<-hx];refine ye ?_;refine⟨⟨oO,fun x hx=>zN hx⟩,fun y hy=>wF (qu hy),?_⟩
   rw[<-vL,zK,bw];rfl
theorem nN (n:Nat) (hn:n<18446744073709551616):aH 51 [.i .u64 n] (.s (b7 n)):=by
 refine eW call51 func51 ?_;refine pO ?_;refine ah (α:=Nat) (fun i=>8-i) (fun i=>⟨[(0, .v (.i .u64 (n/256^i:Nat))),(3, .rs 1001 0 0 8 1),(4, .v (.i .i64 (7-(i:Int))))],[(1001,⟨0,aM (List.replicate (8-i) 0++be i n),false,none⟩)],_⟩) (fun i=>i<=8) 0 (fun _=>aA _) (aD _) ?_ ?_
 ·(refine AS.Le.of (by first|decide|omega) ?_ ?_<;>simp[cU,cT,aO,az,AV.bd,AV.bd.bdL,u8,aj,ak,an])
  all_goals rfl
 ·intro i hi R hR;have hl:(List.replicate (8-i) (0:UInt8)++be i n).length=8:=by simp[cX];omega
  have hle:n/256^i<=n:=fx _ _
  by_cases hlt:i<8
  ·have e2: ∀ _:True,((7:Int)-i).toNat=8-1-i:=fun _=>oO
   have e3: ∀ _:True,n/256^i/256=n/256^(i+1):=fun _=>by rw[ff,<-Nat.pow_succ]
   have hle2:n/256^(i+1)<=n:=fx _ _;have e4: ∀ _:True,IntKind.u64.wrap ((n/256^(i+1):Nat):Int)=((n/256^(i+1):Nat):Int):=fun _=>by
    generalize n/256^(i+1)=z at hle2⊢;exact IntWalk.u64_in _ oO
   refine dw (aN @hl (aN (e3 oT) (e4 oT))) ?_;refine hR (i+1) oO oO _ ?_;rw[e2 oT,uh (c:=UInt8.ofNat (n/256^i)) oO (by rw[l8,jd,jd,eQ]),iR hlt]
   (refine AS.Le.of (by first|decide|omega) ?_ ?_<;>simp[cU,cT,aO,az,AV.bd,AV.bd.bdL,u8,aj,ak,an])
   all_goals first|omega|rfl|skip
  ·obtain rfl:i=8:=oO;have:=rh (be 8 n) (by rw[cX];decide)
   have hl:(be 8 n).length=8:=cX 8 n;repeat' first|simp only[go_sem,seval,hl]|(refine iQ this rfl rfl hl.symm ?_)|refine oE ?_|apply xX<;>intro hc
   rw[kF oO]
theorem uT (a:Bytes) (hl:a.length<=8):aH 173 [.s a] (.i .u64 (num a)):=by
 refine eW call173 func173 ?_;refine pO ?_;refine ah (α:=Nat) (fun i=>a.length-i) (fun i=>⟨[(0, .v (.s a)),(3, .v (.i .u64 (num (a.take i)))),(4, .v (.i .i64 i))],[],_⟩) (fun i=>i<=a.length) 0 (fun _=>aA _) (aD _) ?_ ?_
 ·(refine AS.Le.of (by first|decide|omega) ?_ ?_<;>simp[cU,cT,aO,az,AV.bd,AV.bd.bdL,u8,aj,ak,an])
  all_goals rfl
 ·intro i hi R hR
  by_cases hlt:i<a.length
  ·have h1:=lV hlt;have h2:=cO (a.take (i+1));have h3:(256:Nat)^(a.take (i+1)).length<=256^8:=dp oC (by simp;omega)
   refine ye ?_;refine hR (i+1) oO oO _ ?_;rw[h1]
   (refine AS.Le.of (by first|decide|omega) ?_ ?_<;>simp[cU,cT,aO,az,AV.bd,AV.bd.bdL,u8,aj,ak,an])
   all_goals first|omega|rfl|skip
  ·obtain rfl:i=a.length:=oO;rw[bm];exact z0
theorem fD {a b:Bytes} (ha:Canon a) (hb:Canon b) (la:a.length<4611686018427387904) (lb:b.length<4611686018427387904):aH 98 [.s a, .s b] (E (a7 (num a) (num b))):=by
 by_cases h1:a.length<b.length
 ·have:=ji (a:=a) hb h1;have e:a7 (num a) (num b)= -1:=by simp[a7,this]
  rw[e];refine eW call98 func98 ?_;exact z0
 by_cases h2:b.length<a.length
 ·have:=ji (a:=b) ha h2;have e:a7 (num a) (num b)=1:=by unfold a7;rw[aa oO,af this]
  rw[e];refine eW call98 func98 ?_;exact z0
 have hl:a.length=b.length:=oO;rw[<-kY hl];refine eW call98 func98 ?_;refine pO ?_;refine ah (α:=Nat) (fun i=>a.length-i) (fun i=>⟨[(0, .v (.s a)),(1, .v (.s b)),(5, .v (.i .i64 i))],[],_⟩) (fun i=>i<=a.length/\Lib.compareBytes (a.drop i) (b.drop i)=Lib.compareBytes a b) 0 (fun _=>aA _) ⟨aD _,rfl⟩ ?_ ?_
 ·exact lE
 ·rintro i ⟨hi,hx⟩ R hR
  by_cases hlt:i<a.length
  ·have d1:a.drop i=a.getD i 0::a.drop (i+1):=by rw[kJ hlt,bu,bC hlt];rfl
   have hltb:i<b.length:=oO;have d2:b.drop i=b.getD i 0::b.drop (i+1):=by rw[kJ hltb,bu,bC hltb];rfl
   have hgo:=hR (i+1);rw[<-hx]at hgo⊢;rw[d1,d2]at hgo⊢;simp only[Lib.compareBytes]at hgo⊢;clear d1 d2 hx hR;have e1:a.getD i 0<b.getD i 0↔(a.getD i 0).toNat<(b.getD i 0).toNat:=yH;have e2:b.getD i 0<a.getD i 0↔(b.getD i 0).toNat<(a.getD i 0).toNat:=yH;simp only[e1,e2]at hgo⊢;obtain⟨x,hx⟩: ∃x,x=a.getD i 0:=⟨_,rfl⟩;obtain⟨y,hy⟩: ∃y,y=b.getD i 0:=⟨_,rfl⟩;rw[<-hx,<-hy]at hgo⊢;clear e1 e2;repeat' first|simp only[go_sem,seval,<-hx,<-hy]|refine oE ?_|apply xX<;>intro hc
   ·refine hgo ⟨oO,?_⟩ oO _ ?_
    ·rw[aa oO,aa oO]
    ·exact lE
   ·rw[af oO]
   ·rw[aa oO,af oO]
  ·obtain rfl:i=a.length:=oO;refine ye ?_;rw[<-hx,bw,hl,bw];rfl
theorem jL (a b:Bytes):aH 48 [.s a, .s b] (E (if ae a&&ae b then a7 (num a) (num b)else 0)):=by
 by_cases h:ae a=true/\ae b=true
 case neg=>
  refine eW call48 func48 ?_;repeat' first|simp only[go_sem,seval]|refine cP (aU _) ?_|refine oE ?_|apply xX<;>intro hc
  all_goals simp_all
 have la:=eU h.1;have lb:=eU h.2;have ho:=fD (bJ h.1) (bJ h.2) oO oO;refine eW call48 func48 ?_;repeat' first|simp only[go_sem,seval]|refine cP (aU _) ?_|refine cP ho ?_|refine oE ?_|apply xX<;>intro hc
 all_goals simp_all
theorem tJ (a:Bytes) (i:Nat) (ha:a.length<4611686018427387904):aH 256 [.s a,E i] (E ((num a/256^i%256:Nat):Int)):=by
 refine eW call256 func256 ?_;repeat' first|simp only[go_sem,seval]|refine oE ?_|apply xX<;>intro hc
 ·rw[tG a oO];rfl
 ·have h:=wM a (i:=i) oO;rw[<-h,show((a.length:Int)-1-(i:Int)).toNat=a.length-1-i by omega]
  have:=(a.getD (a.length-1-i) 0).toNat_lt;rw[IntWalk.i64_in _ oO]
theorem Gx (a b:Bytes) (la:a.length<1099511627776) (lb:b.length<1099511627776):aH 175 [.s a, .s b] (.s (b7 (num a+num b))):=by
 have hmax:(if(b.length:Int)>(a.length:Int)then(b.length:Int)else(a.length:Int))=((max a.length b.length:Nat):Int):=by
  split<;>omega
 obtain⟨n,hn⟩: ∃n,n=max a.length b.length+1:=⟨_,rfl⟩;have hn2:((max a.length b.length:Nat):Int)+1=(n:Int):=oO;refine eW call175 func175 ?_;refine dh (aN @hmax (aN @hn2 @o5)) ?_;refine ah (α:=Nat) (fun i=>n-i) (fun i=>⟨[(0, .v (.s a)),(1, .v (.s b)),(5, .v (.i .i64 n)),(6, .rs 1009 0 0 n 1),(7, .v (.i .i64 (carry (num a) (num b) (256^i)))),(8, .v (.i .i64 i))],[(1009,⟨0,aM (List.replicate (n-i) 0++be i (num a+num b)),false,none⟩)],_⟩) (fun i=>i<=n) 0 (fun _=>aA _) (aD _) ?_ ?_
 ·(refine AS.Le.of (by first|decide|omega) ?_ ?_<;>simp[cU,cT,aO,az,AV.bd,AV.bd.bdL,u8,aj,ak,an])
  ·simp[carry,mT]
  ·simp[be]
 ·intro i hi R hR;have hl:=pV n i (num a+num b) hi;have hp:=jU i;have hc1:=Fp (num a) (num b) hp
  by_cases hlt:i<n
  ·have e0: ∀ _:True,((num a/256^i%256:Nat):Int)+((num b/256^i%256:Nat):Int)+((carry (num a) (num b) (256^i):Nat):Int)=((carry (num a) (num b) (256^i)+(num a/256^i%256+num b/256^i%256):Nat):Int):=fun _=>oO
   repeat' first|simp only[go_sem,seval,hl,e0 oT]|refine cP (tJ a i oO) ?_|refine cP (tJ b i oO) ?_|refine oE ?_|apply xX<;>intro hc
   refine hR (i+1) oO oO _ ?_;have e2:((n:Int)-1-i).toNat=n-1-i:=oO;rw[e2,uh (c:=UInt8.ofNat ((num a+num b)/256^i)) oO (by rw[l8,<-zL _ _ hp,jd,jd,eQ]),iR hlt,zM _ _ hp,<-Nat.pow_succ]
   (refine AS.Le.of (by first|decide|omega) ?_ ?_<;>simp[cU,cT,aO,az,AV.bd,AV.bd.bdL,u8,aj,ak,an])
   all_goals first|omega|rfl|skip
  ·obtain rfl:i=n:=oO;have:=rh (be i (num a+num b)) (by rw[cX];omega)
   have hl:(be i (num a+num b)).length=i:=cX _ _;repeat' first|simp only[go_sem,seval,hl,gD,List.replicate_zero]|(refine iQ this rfl rfl hl.symm ?_)|refine oE ?_|apply xX<;>intro hc
   have h1:num a+num b<256^i:=by
    have g1:=cO a;have g2:=cO b;have p1:256^a.length<=256^(i-1):=dp oC oO;have p2:256^b.length<=256^(i-1):=dp oC oO;have p3:256^i=256^(i-1)*256:=by rw[<-Nat.pow_succ];congr 1;omega
    omega
   rw[kF h1]
theorem pE (a b:Bytes) (la:a.length<1099511627776) (lb:b.length<1099511627776) (h:num b<=num a):aH 167 [.s a, .s b] (.s (b7 (num a-num b))):=by
 obtain⟨n,hn⟩: ∃n,n=a.length:=⟨_,rfl⟩;refine eW call167 func167 ?_;simp only[go_sem,seval,<-hn];repeat' first|simp only[go_sem,seval,<-hn,o5]|refine oE ?_|apply xX<;>intro hc
 refine ah (α:=Nat) (fun i=>n-i) (fun i=>⟨[(0, .v (.s a)),(1, .v (.s b)),(5, .v (.i .i64 n)),(6, .rs 1005 0 0 n 1),(7, .v (.i .i64 (borrow (num a) (num b) (256^i)))),(8, .v (.i .i64 i))],[(1005,⟨0,aM (List.replicate (n-i) 0++be i (num a-num b)),false,none⟩)],_⟩) (fun i=>i<=n) 0 (fun _=>aA _) (aD _) ?_ ?_
 ·(refine AS.Le.of (by first|decide|omega) ?_ ?_<;>simp[cU,cT,aO,az,AV.bd,AV.bd.bdL,u8,aj,ak,an])
  ·simp[borrow,mT]
  ·simp[be]
 ·intro i hi R hR;have hl:=pV n i (num a-num b) hi;have hp:=jU i;have hc1:=B8 (num a) (num b) (256^i);have hb1:=xt (num a) (num b) hp;have hb2:=xr (num a) (num b) hp h;have e2:((n:Int)-1-i).toNat=n-1-i:=oO
  by_cases hlt:i<n
  ·repeat' first|simp only[go_sem,seval,hl]|refine cP (tJ a i oO) ?_|refine cP (tJ b i oO) ?_|refine oE ?_|apply xX<;>intro hc
   ·refine hR (i+1) oO oO _ ?_;rw[e2,uh (c:=UInt8.ofNat ((num a-num b)/256^i)) oO (by rw[YE,jd,<-hb2 _ rfl];omega),iR hlt]
    (refine AS.Le.of (by first|decide|omega) ?_ ?_<;>simp[cU,cT,aO,az,AV.bd,AV.bd.bdL,u8,aj,ak,an])
    ·rw[Nat.pow_succ,hb1,af hc];rfl
    ·rfl
   ·refine hR (i+1) oO oO _ ?_;rw[e2,uh (c:=UInt8.ofNat ((num a-num b)/256^i)) oO (by rw[YE,jd,<-hb2 _ rfl]),iR hlt]
    (refine AS.Le.of (by first|decide|omega) ?_ ?_<;>simp[cU,cT,aO,az,AV.bd,AV.bd.bdL,u8,aj,ak,an])
    ·rw[Nat.pow_succ,hb1,aa hc];rfl
    ·rfl
  ·obtain rfl:i=n:=oO;have:=rh (be i (num a-num b)) (by rw[cX];omega)
   have hl:(be i (num a-num b)).length=i:=cX _ _;repeat' first|simp only[go_sem,seval,hl,gD,List.replicate_zero]|(refine iQ this rfl rfl hl.symm ?_)|refine oE ?_|apply xX<;>intro hc
   have h1:num a-num b<256^i:=by have:=cO a;rw[hn];omega
   rw[kF h1]
end Go.Proofs.Tryz
namespace Go.Proofs.Tryz
open Go Go.Dom
variable {x y:Nat}
theorem rX (a b:Bytes) (la:a.length<1048576) (lb:b.length<1048576):aH 166 [.s a, .s b] (.s (b7 (num a*num b))):=by
 obtain⟨n,hn⟩: ∃n,n=a.length+b.length:=⟨_,rfl⟩;have hn':((a.length:Int)+(b.length:Int))=(n:Int):=oO;have hmul:num a*num b<256^n:=by rw[hn,dD];exact fT (cO a) (cO b)
 by_cases h8:n<=8
 ·have hu1:=uT a oO;have hu2:=uT b oO;have hp:num a*num b<(2^64):=bM hmul (dp oC h8);have ho:=nN (num a*num b) hp;have hw: ∀ _:True,IntKind.u64.wrap ((num a:Int)*(num b:Int))=((num a*num b:Nat):Int):=fun _=>by
   rw[<-Int.natCast_mul,IntWalk.u64_in _ oO]
  clear hmul;refine eW call166 func166 ?_;exact ry (aN @hn' (hw oT)) @hu1 @hu2 @ho oT
 have hcz: ∀m:Nat,(List.replicate m [AV.v (PV.i IntKind.i64 0)]).flatten=aF .i64 (List.replicate m 0):=by
  intro m
  induction m with
  |zero=>rfl
  |succ m ih=>rw[List.replicate_succ,List.flatten_cons,ih,List.replicate_succ];rfl
 have hw1: ∀ _:True,((n:Int)+1)=((n+1:Nat):Int):=fun _=>rfl
 refine eW call166 func166 ?_;refine dh (aN @hn' (aN @o5 (aN (hw1 oT) @hcz))) ?_;refine ah (α:=Nat×List Nat) (fun x=>a.length-x.1) (fun x=>⟨[(0, .v (.s a)),(1, .v (.s b)),(5,E' n),(6, .rs 1015 0 0 (n+1) 1),(7, .v (.i .i64 x.1))],[(1015,⟨0,aF .i64 x.2,false,none⟩)],_⟩) (fun x=>x.1<=a.length/\xK (n+1) (num a) (num b) x.1 0 x.2) (0,List.replicate (n+1) 0) (fun _=>aA _) ⟨aD _, .start _ _ _⟩ ?_ ?_
 ·(refine AS.Le.of (by first|decide|omega) ?_ ?_<;>simp[cU,cT,aO,az,AV.bd,AV.bd.bdL,u8,aj,ak,an])
  all_goals skip
 ·rintro⟨i,l⟩ ⟨hi,hl⟩ R hR;simp only at hi hl;have l1:(aF .i64 l).length=n+1:=by rw[bH,hl.len]
  by_cases hlt:i<a.length
  ·refine dh @l1 ?_;refine ah (α:=Nat×List Nat) (fun x=>b.length-x.1) (fun x=>⟨[(0, .v (.s a)),(1, .v (.s b)),(5,E' n),(6, .rs 1015 0 0 (n+1) 1),(7,E' i),(8,E' x.1)],[(1015,⟨0,aF .i64 x.2,false,none⟩)],_⟩) (fun x=>x.1<=b.length/\xK (n+1) (num a) (num b) i x.1 x.2) (0,l) (fun _=>aA _) ⟨aD _,hl⟩ ?_ ?_
   ·exact lE
   ·rintro⟨k,m⟩ ⟨hk,hm⟩ R' hR';simp only at hk hm;have m1:(aF .i64 m).length=n+1:=by rw[bH,hm.len]
    by_cases hklt:k<b.length
    ·obtain⟨x,hx⟩: ∃x,x=num a/256^i%256:=⟨_,rfl⟩;obtain⟨y,hy⟩: ∃y,y=num b/256^k%256:=⟨_,rfl⟩;have hst:=hm.step oO;rw[<-hx,<-hy]at hst;have hxy:x*y<=65025:=lD (by omega:x<=255) (by omega:y<=255)
     have hc:=hm.hi (i+k) (aA _);have g1: ∀ _:True,(aF .i64 m).getD ((i:Int)+(k:Int)).toNat .u= .v (.i .i64 (m.getD (i+k) 0:Nat)):=fun _=>by
      rw[show((i:Int)+(k:Int)).toNat=i+k by omega,dV (by rw[hm.len];omega)]
     have g2: ∀ _:True,IntKind.i64.wrap ((x:Int)*(y:Int))=((x*y:Nat):Int):=fun _=>by
      rw[<-Int.natCast_mul,IntWalk.i64_in _ oO]
     have g3: ∀ _:True,IntKind.i64.wrap (((m.getD (i+k) 0:Nat):Int)+((x*y:Nat):Int))=((m.getD (i+k) 0+x*y:Nat):Int):=fun _=>by
      rw[<-Int.natCast_add,IntWalk.i64_in _ oO]
     have hd1:=tJ a i oO;have hd:=tJ b k oO;rw[<-hy]at hd;rw[<-hx]at hd1;clear hy hxy hx;refine rz (aN @m1 (aN (g1 oT) (aN (g2 oT) (g3 oT)))) @hd1 @hd ?_;refine hR' (k+1,m.set (i+k) (m.getD (i+k) 0+x*y)) ⟨by show k+1<= _;omega,hst⟩ (by show b.length-(k+1)<b.length-k;omega) _ ?_
     rw[show((i:Int)+(k:Int)).toNat=i+k by omega,eL (by rw[hm.len];omega) rfl]
     exact lE
    ·obtain rfl:k=b.length:=oO;refine ye ?_;refine hR (i+1,m) ⟨by show i+1<= _;omega,hm.row (cO b)⟩ (by show a.length-(i+1)<a.length-i;omega) _ ?_
     exact lE
  ·obtain rfl:i=a.length:=oO;refine dw (aN @l1 @o5) ?_;have hv:=hl.v;have ha:=cO a;rw[bV ha]at hv;simp only[Nat.pow_zero,mT,Nat.mul_zero,vJ,Nat.add_zero]at hv;obtain⟨T,hT⟩: ∃T,T=num a*num b:=⟨_,rfl⟩;rw[<-hT]at hv;have hTl:T<256^n:=by rw[hT];exact hmul
   rw[<-hT];refine ah (α:=Nat) (fun i=>n-i) (fun i=>⟨[(5,E' n),(6, .rs 1015 0 0 (n+1) 1),(9, .rs 1023 0 0 n 1),(10,E' (le (l.take i)/256^i)),(11,E' i)],[(1015,⟨0,aF .i64 l,false,none⟩),(1023,⟨0,aM (List.replicate (n-i) 0++be i T),false,none⟩)],_⟩) (fun i=>i<=n) 0 (fun _=>aA _) (aD _) ?_ ?_
   ·(refine AS.Le.of (by first|decide|omega) ?_ ?_<;>simp[cU,cT,aO,az,AV.bd,AV.bd.bdL,u8,aj,ak,an])
    all_goals first|rfl|simp[le,be]
   ·intro i hi R hR;have hb:=pV n i T hi
    by_cases hlt:i<n
    ·obtain⟨e1,e2⟩:=uq (l:=l) (i:=i) (by rw[hl.len];omega) hv.symm
     have hm:=hl.lo i;have hc:=hl.lo.carry i;have g1: ∀ _:True,(aF .i64 l).getD i .u= .v (.i .i64 (l.getD i 0:Nat)):=fun _=>dV (by rw[hl.len];omega)
     have g2: ∀ _:True,IntKind.i64.wrap (((l.getD i 0:Nat):Int)+((le (l.take i)/256^i:Nat):Int))=((le (l.take i)/256^i+l.getD i 0:Nat):Int):=fun _=>by
      have hs:le (l.take i)/256^i+l.getD i 0<=65025*(a.length+1)+65025*(a.length+1):=Nat.add_le_add hc hm;rw[<-Int.natCast_add,iM];generalize le (l.take i)/256^i+l.getD i 0=z at hs⊢;rw[IntWalk.i64_in _ oO]
     clear e1 e2 hm hc;refine dw (aN @l1 (aN (g1 oT) (aN (g2 oT) @hb))) ?_;obtain⟨e1,e2⟩:=uq (l:=l) (i:=i) (by rw[hl.len];omega) hv.symm
     have hs:le (l.take (i+1))/256^(i+1)<=65025*(a.length+1):=hl.lo.carry (i+1);have hw:IntKind.i64.wrap ((le (l.take (i+1))/256^(i+1):Nat):Int)=((le (l.take (i+1))/256^(i+1):Nat):Int):=by
      generalize le (l.take (i+1))/256^(i+1)=z at hs⊢;rw[IntWalk.i64_in _ oO]
     refine hR (i+1) oO oO _ ?_;rw[e2,hw,show((n:Int)-1-i).toNat=n-1-i by omega,uh (c:=UInt8.ofNat (T/256^i)) oO (by rw[l8,jd,jd];exact congrArg _ oO),iR hlt]
     (refine AS.Le.of (by first|decide|omega) ?_ ?_<;>simp[cU,cT,aO,az,AV.bd,AV.bd.bdL,u8,aj,ak,an])
     all_goals rfl
    ·obtain rfl:i=n:=oO;have:=rh (be i T) (by rw[cX];omega)
     have hl':(be i T).length=i:=cX _ _;repeat' first|simp only[go_sem,seval,hl',gD,List.replicate_zero]|(refine iQ this rfl rfl hl'.symm ?_)|refine oE ?_|apply xX<;>intro hc
     rw[kF hTl]
theorem IX {n k:Nat} (h1:2^k<=n) (h2:n<2^(k+1)):dG n=k+1:=by
 have hp:0<2^k:=iJ oC;unfold dG;rw[aa oO,(Nat.log2_eq_iff oO).2 ⟨h1,h2⟩]
theorem uf (n:Nat):n<2^dG n:=by
 unfold dG;split
 ·rename_i h;rw[h];decide
 ·exact vI
theorem ue {n:Nat} (h:n≠0):2^(dG n-1)<=n/\0<dG n:=by
 unfold dG;rw[aa h];exact⟨Nat.log2_self_le h,oO⟩
theorem Km {n:Nat} (h:n≠0):dG n=dG (n/2)+1:=by
 obtain⟨h1,h2⟩:=ue h;have h3:=uf n;obtain⟨k,hk⟩: ∃k,dG n=k+1:=⟨dG n-1,oO⟩;rw[hk]at h1 h3⊢;simp only[sB]at h1
 cases k with
 |zero=>
  have:n/2=0:=by simp at h3;omega
  rw[this];rfl
 |succ k=>
  rw[Nat.pow_succ]at h1 h3;rw[IX (n:=n/2) (k:=k) oO oO]
theorem Kl {c:UInt8} (r:Bytes) (h:c≠0):dG (num (c::r))=8*r.length+dG c.toNat:=by
 have hc:c.toNat≠0:=fun e=>h (kP.1 e)
 obtain⟨h1,h2⟩:=ue hc;have h3:=uf c.toNat;have e256:256^r.length=2^(8*r.length):=by rw[show 256=2^8 from rfl,<-kR]
 have hn:num (c::r)=c.toNat*256^r.length+num r:=rfl;have hr:=cO r;have a1:2^(8*r.length+dG c.toNat-1)=2^(dG c.toNat-1)*256^r.length:=by rw[e256,<-dD];congr 1;omega
 have a2:2^(8*r.length+dG c.toNat-1+1)=2^dG c.toNat*256^r.length:=by rw[e256,<-dD];congr 1;omega
 have b1:=dQ (256^r.length) h1;have b2:=dQ (256^r.length) (show c.toNat+1<=2^dG c.toNat from h3)
 rw[dK]at b2;rw[IX (k:=8*r.length+dG c.toNat-1) oO oO];omega
theorem Vi (x:Nat):(x:Int).tdiv 2=((x/2:Nat):Int):=rfl
theorem A9 {a:Bytes} (h:Canon a) (la:a.length<1048576):aH 174 [.s a] (E (dG (num a))):=by
 cases a with
 |nil=>
  refine eW call174 func174 ?_;repeat' first|simp only[go_sem,seval,nn]|refine oE ?_|apply xX<;>intro hc
  rfl
 |cons c r=>
  have hc0:c≠0:=by rcases h with e|e;cases e;exact e
  have hb:=Kl r hc0;obtain⟨B,hB⟩: ∃B,B=dG (num (c::r)):=⟨_,rfl⟩;rw[<-hB]at hb⊢;have hcl:=c.toNat_lt;have hl:r.length<1048576:=by simp at la;omega
  have hb8:dG c.toNat<=8:=by
   obtain⟨g1,g2⟩:=ue (n:=c.toNat) (fun e=>hc0 (kP.1 e))
   have:=(si (by decide:1<2)).1 (show 2^(dG c.toNat-1)<2^8 by omega)
   omega
  refine eW call174 func174 ?_;refine dh @cn ?_;refine ah (α:=Nat) (fun x=>x) (fun x=>⟨[(3,E' (B-dG x)),(4,E' x)],[],_⟩) (fun x=>x<256/\dG x<=B) c.toNat (fun _=>aA _) ⟨hcl,oO⟩ ?_ ?_
  ·(refine AS.Le.of (by first|decide|omega) ?_ ?_<;>simp[cU,cT,aO,az,AV.bd,AV.bd.bdL,u8,aj,ak,an])
   all_goals omega
  ·rintro x ⟨hx,hxb⟩ R hR
   by_cases h0:x=0
   ·subst h0;repeat' first|simp only[go_sem,seval]|refine oE ?_|apply xX<;>intro hc
    rfl
   ·have hh:=Km h0;have hw: ∀ _:True,IntKind.i64.wrap (((B-dG x:Nat):Int)+1)=((B-dG (x/2):Nat):Int):=fun _=>by rw[IntWalk.i64_in _ oO];omega
    refine dw (aN @Vi (hw oT)) ?_;refine hR (x/2) ⟨oO,oO⟩ oO _ ?_;exact lE
theorem JP (a:Bytes) (i:Nat) (la:a.length<1048576) (hi:i<1099511627776):aH 176 [.s a,E i] (.b ((num a).testBit i)):=by
 have hd:=tJ a (i/8) oO;have e0:(i:Int).tdiv 8=((i/8:Nat):Int):=rfl;have e1:(i:Int).tmod 8=((i%8:Nat):Int):=rfl;have key:(num a).testBit i=decide (num a/256^(i/8)%256/2^(i%8)%2=1):=by
  rw[l9];congr 1;have e2:256^(i/8)=2^(8*(i/8)):=by rw[show 256=2^8 from rfl,<-kR]
  have e3:2^i=256^(i/8)*2^(i%8):=by rw[e2,<-dD];congr 1;omega
  rw[e3,<-ff];generalize num a/256^(i/8)=z;have h8:i%8<8:=aV _ oC;generalize i%8=j at h8;have:2^j*2^(8-j)=256:=by rw[<-dD,show j+(8-j)=8 by omega]
  have e5:z%256/2^j=z/2^j%2^(8-j):=by rw[<-this,sf]
  rw[e5];have e6:2^(8-j)=2*2^(7-j):=by rw[<-yY];congr 1;omega
  rw[e6,Nat.mod_mul_right_mod]
 rw[key];clear key;obtain⟨d,hdd⟩: ∃d,d=num a/256^(i/8)%256:=⟨_,rfl⟩;rw[<-hdd]at hd⊢;have hdl:d<256:=by rw[hdd];exact aV _ oC
 obtain⟨e,he⟩: ∃e,e=i%8:=⟨_,rfl⟩;rw[<-he]at e1⊢;clear hdd;refine eW call176 func176 ?_;refine jA (aN @e0 @e1) @hd ?_;refine ah (α:=Nat) (fun j=>e-j) (fun j=>⟨[(1,E' i),(5,E' (d/2^j)),(6,E' j)],[],_⟩) (fun j=>j<=e) 0 (fun _=>aA _) (aD _) ?_ ?_
 ·(refine AS.Le.of (by first|decide|omega) ?_ ?_<;>simp[cU,cT,aO,az,AV.bd,AV.bd.bdL,u8,aj,ak,an])
  all_goals simp
 ·intro j hj R hR;have hle:d/2^j<=d:=fx _ _
  by_cases hlt:j<e
  ·have hw: ∀ _:True,IntKind.i64.wrap ((d/2^j/2:Nat):Int)=((d/2^(j+1):Nat):Int):=fun _=>by
    rw[Nat.pow_succ,<-ff];generalize d/2^j=z at hle⊢;rw[IntWalk.i64_in _ oO]
   refine dw (aN @e1 (aN @Vi (hw oT))) ?_;refine hR (j+1) oO oO _ ?_;exact lE
  ·obtain rfl:j=e:=oO;have e3:((d/2^j:Nat):Int).tmod 2=((d/2^j%2:Nat):Int):=rfl;repeat' first|simp only[go_sem,seval,e1,e3]|refine oE ?_|apply xX<;>intro hc
   congr 1;rw[cu];simp only[fK,a8];omega
theorem PH (hx:(b7 x).length<1099511627776) (hy:(b7 y).length<1099511627776):aH 175 [N x,N y] (N (x+y)):=by
 have:=Gx (b7 x) (b7 y) hx hy
 rwa[bG,bG]at this
theorem JO (hx:(b7 x).length<1099511627776) (hy:(b7 y).length<1099511627776) (h:y<=x):aH 167 [N x,N y] (N (x-y)):=by
 have:=pE (b7 x) (b7 y) hx hy (by rw[bG,bG];exact h)
 rwa[bG,bG]at this
theorem JR (hx:(b7 x).length<1048576) (hy:(b7 y).length<1048576):aH 166 [N x,N y] (N (x*y)):=by
 have:=rX (b7 x) (b7 y) hx hy
 rwa[bG,bG]at this
theorem DW (hx:(b7 x).length<1099511627776) (hy:(b7 y).length<1099511627776):aH 98 [N x,N y] (E (a7 x y)):=by
 have:=fD (iF x) (iF y) oO oO
 rwa[bG,bG]at this
theorem JF:(.s [1]:PV)=N 1:=rfl
theorem R6 (n:Nat):be n 0=List.replicate n 0:=by
 induction n with
 |zero=>rfl
 |succ n ih=>rw[be,ih,Nat.zero_div,List.replicate_succ];rfl
theorem uR {a b:Bytes} (ha:Canon a) (hb:Canon b) (h0:0<num b) (la:a.length<1048576) (lb:b.length<1048576):aH 89 [.s a, .s b] (.tup [N (num a/num b),N (num a%num b)]):=by
 by_cases h8:a.length<=8/\b.length<=8
 ·have hu1:=uT a h8.1;have hu2:=uT b h8.2;have na:=ga h8.1;have nb:=ga h8.2;have hq:num a/num b<(2^64):=eR (fx _ _) na;have hr:num a%num b<(2^64):=eR (Nat.mod_le _ _) na;refine eW call89 func89 ?_;repeat' first|simp only[go_sem,seval,uw,bV hq]|refine cP hu1 ?_|refine cP hu2 ?_|refine cP (nN _ hq) ?_|refine cP (nN _ hr) ?_|refine oE ?_|apply xX<;>intro hc
 have hbits:=A9 ha la;obtain⟨n,hn⟩: ∃n,n=a.length:=⟨_,rfl⟩;have hone:=fun i hi=>JP a i la hi
 have hAn:num a<256^n:=by rw[hn];exact cO a
 obtain⟨A,hA⟩: ∃A,A=num a:=⟨_,rfl⟩;obtain⟨B,hB⟩: ∃B,B=num b:=⟨_,rfl⟩;have hbB:b7 B=b:=by rw[hB];exact IZ hb
 have hBl:(b7 B).length<1048576:=by rw[hbB];exact lb
 have hlen: ∀{x:Nat},x<2*B->(b7 x).length<1099511627776:=by
  intro x hx;have h1:B<256^b.length:=by rw[hB];exact cO b
  have h2:x<256^(b.length+1):=by rw[Nat.pow_succ];omega
  have:=lQ.2 h2;omega
 have hbl:dG A<8388608:=by
  by_cases hz:A=0
  ·rw[hz];decide
  ·obtain⟨g1,g2⟩:=ue hz;have g3:2^(dG A-1)<2^(8*n):=eR g1 (by rw[kR];rw[hA];exact hAn)
   have:=(si (by decide:1<2)).1 g3
   omega
 rw[<-hA]at hbits hone hAn⊢;rw[<-hB]at h0⊢;have eb:PV.s b=N B:=by show PV.s b=PV.s (b7 B);rw[hbB]
 have hb2:A/2^dG A=0:=iZ (uf A);rcases(show 8<a.length\/(a.length<=8/\8<b.length) by omega)with g|g
 all_goals
  refine eW call89 func89 ?_;simp only[go_sem,seval,<-hn];repeat' first|simp only[go_sem,seval,<-hn,o5]|refine cP hbits ?_|refine oE ?_|apply xX<;>intro hc
  refine ah (α:=Nat) (fun k=>k) (fun k=>⟨[(0, .v (.s a)),(1, .v (.s b)),(8, .rs 1012 0 0 n 1),(9, .v (N (A/2^k%B))),(10, .v (.i .i64 ((k:Int)-1)))],[(1012,⟨0,aM (be n (A/2^k/B*2^k)),false,none⟩)],_⟩) (fun k=>k<=dG A) (dG A) (fun _=>aA _) (aA _) ?_ ?_
  ·(refine AS.Le.of (by first|decide|omega) ?_ ?_<;>simp[cU,cT,aO,az,AV.bd,AV.bd.bdL,u8,aj,ak,an])
   all_goals simp[hb2,R6]
   all_goals rfl
  ·intro k hk R hR;have hbe: ∀q,(be n q).length=n:=fun q=>cX _ _
   cases k with
   |zero=>
    have:=rh (be n (A/1/B)) (by rw[cX];omega)
    repeat' first|simp only[go_sem,seval,hbe]|(refine iQ this rfl rfl (hbe _).symm ?_)|refine oE ?_|apply xX<;>intro hc
    rw[jx,kF (eR (fx _ _) hAn)]
   |succ i=>
    have hz:=FP A i;have ht:A/2^i%2<2:=aV _ oC;obtain⟨s1,s2⟩:=Nr (z:=A/2^(i+1)) (t:=A/2^i%2) (B:=B) h0 ht;rw[<-hz]at s1 s2;have hr1:A/2^(i+1)%B<B:=aV _ h0;have hbit:=hone i oO;rw[l9]at hbit;have hQn:A/2^i/B*2^i<=A:=fw (dQ _ (fx _ _)) (sA _ _);obtain⟨Q,hQ⟩: ∃Q,Q=A/2^(i+1)/B:=⟨_,rfl⟩;obtain⟨r,hr⟩: ∃r,r=A/2^(i+1)%B:=⟨_,rfl⟩;obtain⟨t,htt⟩: ∃t,t=A/2^i%2:=⟨_,rfl⟩;rw[<-hQ,<-hr,<-htt]at s1;rw[<-hr,<-htt]at s2;rw[<-hr]at hr1;rw[<-htt]at ht hbit;rw[<-hQ,<-hr];have hQ2:Q*2^(i+1)=2*Q*2^i:=by rw[Nat.pow_succ,cv (2^i),<-de,cv Q]
    have p1:=PH (x:=r) (y:=r) (hlen oO) (hlen oO);have p2:=PH (x:=r+r) (y:=1) (hlen oO) oC;have hw0: ∀ _:True,((i+1:Nat):Int)-1=(i:Int):=fun _=>oO
    have hge0: ∀ _:True,decide ((i:Int)>=0)=true:=fun _=>by simp
    have hrt:r+r+t=2*r+t:=oO
    by_cases hge:B<=r+r+t
    ·rw[af oO]at s1 s2;have m1:=JO (x:=r+r+t) (y:=B) (hlen oO) oO hge;have o1:=DW (x:=r+r+t) (y:=B) (hlen oO) oO;obtain⟨cm,hcm⟩: ∃cm,cm=a7 (r+r+t) B:=⟨_,rfl⟩;have hcg: ∀ _:True,decide (cm>=0)=true:=fun _=>by rw[hcm];unfold a7;rw[aa oO];split<;>rfl
     rw[<-hcm]at o1;rw[<-eb]at m1 o1;have s2':A/2^i%B=r+r+t-B:=by rw[s2];omega
     have s1':A/2^i/B*2^i=Q*2^(i+1)+2^(i%8)*256^(i/8):=by rw[s1,dK,ML,hQ2,iL]
     have hbf:=MM (Q:=Q) (i:=i);have hj:i/8<n:=by
      have h1:256^(i/8)<=A:=by
       rw[s1']at hQn;have:=ES (256^(i/8)) (iJ (n:=i%8) (show 0<2 by decide))
       omega
      exact(si (by decide:1<256)).1 (eR h1 hAn)
     have hadd:=Wo hj hbf;rw[<-s1']at hadd;have hq1:(i:Int).tdiv 8=((i/8:Nat):Int):=rfl;have hq2:(i:Int).tmod 8=((i%8:Nat):Int):=rfl;have hix: ∀ _:True,((n:Int)-1-((i/8:Nat):Int)).toNat=n-1-i/8:=fun _=>oO
     have hdig:=wM (be n (Q*2^(i+1))) (i:=i/8) (by rw[cX];exact hj)
     rw[cX,AF]at hdig;have hdig2:Q*2^(i+1)%256^n/256^(i/8)%256=Q*2^(i+1)/256^(i/8)%256:=by
      have this:Q*2^(i+1)<=A/2^i/B*2^i:=by rw[s1'];exact ER _ _
      rw[bV (eR (fw this hQn) hAn)]
     rw[hdig2]at hdig;obtain⟨L,hL⟩: ∃L,L=be n (Q*2^(i+1)):=⟨_,rfl⟩;have hLl:L.length=n:=by rw[hL];exact cX _ _
     obtain⟨y,hy⟩: ∃y,y=Q*2^(i+1)/256^(i/8)%256:=⟨_,rfl⟩;rw[<-hL,<-hy]at hadd hdig;rw[<-hy]at hbf;rw[<-hL];have hrd: ∀ _:True,(aM L).getD (n-1-i/8) .u= .v (.i .u8 (y:Int)):=fun _=>by
      have:n-1-i/8<L.length:=oO;rw[<-hdig];simp[aM,bu,this,u8]
     have he7:i%8<8:=aV _ oC;clear hQ hr htt hz hQ2 hdig2 hL hy;rcases(show t=0\/t=1 by omega)with h0|h1
     ·subst h0;have hbit':aH 176 [.s a,E i] (.b false):=hbit;refine mK (aN (hw0 oT) (aN (hge0 oT) (hcg oT))) @p1 @hbit' @o1 @m1 ?_;refine ah (α:=Nat) (fun j=>i%8-j) (fun j=>⟨[(0, .v (.s a)),(1, .v (.s b)),(8, .rs 1012 0 0 n 1),(9, .v (N (r+r-B))),(10, .v (.i .i64 (i:Int))),(11, .v (.i .u8 ((2^j:Nat):Int))),(12, .v (.i .i64 (j:Int)))],[(1012,⟨0,aM L,false,none⟩)],_⟩) (fun j=>j<=i%8) 0 (fun _=>aA _) (aD _) ?_ ?_
      ·exact lE
      ·intro j hj R2 hR2
       by_cases hlt:j<i%8
       ·have hp7:2^(j+1)<=2^7:=dp oC oO;have hwj: ∀ _:True,IntKind.u8.wrap (((2^j:Nat):Int)*2)=((2^(j+1):Nat):Int):=fun _=>by
         rw[YE,Nat.pow_succ,Int.natCast_mul];rw[Nat.pow_succ]at hp7;omega
        refine dw (aN @hq2 (hwj oT)) ?_;refine hR2 (j+1) oO oO _ ?_;exact lE
       ·obtain rfl:j=i%8:=oO;repeat' first|simp only[go_sem,seval,<-hn,hq1,hq2,hLl,hix oT,hrd oT]|refine oE ?_|apply xX<;>intro hc
        refine hR i oO oO _ ?_;rw[s2',uh (c:=UInt8.ofNat (y+2^(i%8))) oO (by rw[<-Int.natCast_add,l8]),hadd]
        exact lE
     ·subst h1;have hbit':aH 176 [.s a,E i] (.b true):=hbit;refine Hb (aN (hw0 oT) (aN (hge0 oT) (aN (hcg oT) @JF))) @p1 @hbit' @p2 @o1 @m1 oT oT ?_;refine ah (α:=Nat) (fun j=>i%8-j) (fun j=>⟨[(0, .v (.s a)),(1, .v (.s b)),(8, .rs 1012 0 0 n 1),(9, .v (N (r+r+1-B))),(10, .v (.i .i64 (i:Int))),(11, .v (.i .u8 ((2^j:Nat):Int))),(12, .v (.i .i64 (j:Int)))],[(1012,⟨0,aM L,false,none⟩)],_⟩) (fun j=>j<=i%8) 0 (fun _=>aA _) (aD _) ?_ ?_
      ·exact lE
      ·intro j hj R2 hR2
       by_cases hlt:j<i%8
       ·have hp7:2^(j+1)<=2^7:=dp oC oO;have hwj: ∀ _:True,IntKind.u8.wrap (((2^j:Nat):Int)*2)=((2^(j+1):Nat):Int):=fun _=>by
         rw[YE,Nat.pow_succ,Int.natCast_mul];rw[Nat.pow_succ]at hp7;omega
        refine dw (aN @hq2 (hwj oT)) ?_;refine hR2 (j+1) oO oO _ ?_;exact lE
       ·obtain rfl:j=i%8:=oO;repeat' first|simp only[go_sem,seval,<-hn,hq1,hq2,hLl,hix oT,hrd oT]|refine oE ?_|apply xX<;>intro hc
        refine hR i oO oO _ ?_;rw[s2',uh (c:=UInt8.ofNat (y+2^(i%8))) oO (by rw[<-Int.natCast_add,l8]),hadd]
        exact lE
    ·rw[aa oO]at s1 s2;have o1:=DW (x:=r+r+t) (y:=B) (hlen oO) oO;have hcm:a7 (r+r+t) B= -1:=by unfold a7;rw[af oO]
     rw[hcm,<-eb]at o1;have s2':A/2^i%B=r+r+t:=by rw[s2];omega
     have s1':A/2^i/B*2^i=Q*2^(i+1):=by rw[s1,hQ2];rfl
     clear hQ hr htt hz hQ2;have hR':=hR i oO oO;rw[s1',s2']at hR';rcases(show t=0\/t=1 by omega)with h0|h1
     ·subst h0;have hbit':aH 176 [.s a,E i] (.b false):=hbit;refine nX (aN (hw0 oT) (hge0 oT)) @p1 @hbit' @o1 oT ?_;refine hR' _ ?_;exact lE
     ·subst h1;have hbit':aH 176 [.s a,E i] (.b true):=hbit;refine nX (aN (hw0 oT) (aN (hge0 oT) @JF)) @p1 @hbit' @p2 @o1 ?_;refine hR' _ ?_;exact lE
