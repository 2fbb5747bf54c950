/- Part of the proof. -/
import Derived.Test.YtnhhajlcpjgkjaaGreatDoorUB18
set_option linter.all false
set_option maxHeartbeats 8000000
set_option maxRecDepth 100000
namespace Go.Proofs.Tryz
open Go Go.Dom
theorem ql (n:Nat) (hn:n<18446744073709551616):aE 86 [.i .u64 n] (.s (bQ n)):=by
 refine eW call86 func86 ?_;simp only[go_sem,seval];refine ak (α:=Nat) (fun i=>8-i) (fun i=>⟨[(0, .v (.i .u64 n)),(3, .p 1001 0 0),(5, .v (.i .i64 i))],[(1001,⟨0,aK (List.replicate (8-i) 0++be i n),false,some 237⟩)],1003⟩) (fun i=>i<=8) 0 (fun _=>aD _) (aO _) ?_ ?_
 ·(refine AS.Le.of (by first|decide|omega) ?_ ?_<;>simp[dw,du,aS,aC,AV.bd,AV.bd.bdL,u8,an,ar,aA]);rfl
 ·intro i hi R hR;have hl:(List.replicate (8-i) (0:UInt8)++be i n).length=8:=by simp[cO];omega
  by_cases hlt:i<8
  ·refine eJ @hl ?_;refine hR (i+1) oO oO _ ?_;have e1:(8*(i:Int)).toNat=8*i:=oO;have e2:((7:Int)-i).toNat=8-1-i:=oO;have e3:IntKind.u8.wrap ((n/2^(8*i):Nat):Int)=((UInt8.ofNat (n/256^i)).toNat:Int):=by
    rw[kX,jY]
   rw[e1,e2,ah oO,tK oO e3,iB hlt]
   (refine AS.Le.of (by first|decide|omega) ?_ ?_<;>simp[dw,du,aS,aC,AV.bd,AV.bd.bdL,u8,an,ar,aA]);rfl
  ·obtain rfl:i=8:=oO;have:=kG (be 8 n);have hl:(be 8 n).length=8:=cO 8 n;repeat' first|simp only[go_sem,seval,hl]|(refine iz this rfl rfl hl.symm ?_)|refine oE ?_|apply xX<;>intro hc
   rw[jO oO]
def da:Nat:=256^128
theorem jc {n:Nat}:(bQ n).length<=128↔n<da:=o9
def iR (a b:Bytes):Bytes×Int:=if aa a&&aa b then(if num a+num b<da then(bQ (num a+num b),0)else([],5))else([],3)
theorem n8 (n:Nat):(List.replicate n [AV.v (PV.i IntKind.u8 0)]).flatten=aK (List.replicate n 0):=by
 induction n with
 |zero=>rfl
 |succ n ih=>simp[List.replicate_succ,aK,u8]at ih⊢
theorem pg (n i x:Nat) (h:i<=n):(List.replicate (n-i) (0:UInt8)++be i x).length=n:=by simp[cO];omega
theorem GO (a b:Bytes):aE 58 [.s a, .s b] (.tup [.s (iR a b).1,E (iR a b).2]):=by
 have hmax:(if(b.length:Int)>(a.length:Int)then(b.length:Int)else(a.length:Int))=((max a.length b.length:Nat):Int):=by
  split<;>omega
 by_cases hv:aa a=true/\aa b=true
 case neg=>
  refine eW call58 func58 ?_;repeat' first|simp only[go_sem,seval]|refine cP (aI _) ?_|refine oE ?_|apply xX<;>intro hc
  all_goals simp_all[iR]
 obtain⟨hva,hvb⟩:=hv;have la:=dI hva;have lb:=dI hvb;obtain⟨n,hn⟩: ∃n,n=max a.length b.length+1:=⟨_,rfl⟩;have hn2:((max a.length b.length:Nat):Int)+1=(n:Int):=oO;refine eW call58 func58 ?_;repeat' first|simp only[go_sem,seval,hmax,hn2,n8]|refine cP (aI _) ?_|refine oE ?_|apply xX<;>intro hc
 refine ak (α:=Nat) (fun i=>n-i) (fun i=>⟨[(0, .v (.s a)),(1, .v (.s b)),(6, .v (.i .i64 n)),(7, .rs 1018 0 0 n 1),(8, .v (.i .i64 (carry (num a) (num b) (256^i)))),(26, .v (.i .i64 n)),(27, .v (.i .i64 i))],[(1018,⟨0,aK (List.replicate (n-i) 0++be i (num a+num b)),false,none⟩)],1023⟩) (fun i=>i<=n) 0 (fun _=>aD _) (aO _) ?_ ?_
 ·(refine AS.Le.of (by first|decide|omega) ?_ ?_<;>simp[dw,du,aS,aC,AV.bd,AV.bd.bdL,u8,an,ar,aA])
  ·simp[carry,mc]
  ·simp[be]
 ·intro i hi R hR;have hl:=pg n i (num a+num b) hi;have hp:=jh i;have hc1:=EU (num a) (num b) hp
  by_cases hlt:i<n
  ·repeat' first|simp only[go_sem,seval,hl]|refine cP (lA a i oO) ?_|refine cP (lA b i oO) ?_|refine oE ?_|apply xX<;>intro hc
   refine hR (i+1) oO oO _ ?_;have e2:((n:Int)-1-i).toNat=n-1-i:=oO;have e0:((carry (num a) (num b) (256^i):Nat):Int)+(((num a/256^i%256:Nat):Int)+((num b/256^i%256:Nat):Int))=((carry (num a) (num b) (256^i)+(num a/256^i%256+num b/256^i%256):Nat):Int):=oO;rw[e0,e2,tK oO ((kX _).trans (by rw[yX _ _ hp])),iB hlt,show(256:Int)=((256:Nat):Int)from rfl,CQ,yY _ _ hp,<-Nat.pow_succ]
   (refine AS.Le.of (by first|decide|omega) ?_ ?_<;>simp[dw,du,aS,aC,AV.bd,AV.bd.bdL,u8,an,ar,aA]);rfl
  ·obtain rfl:i=n:=oO;have:=kG (be i (num a+num b));have hl:(be i (num a+num b)).length=i:=cO _ _;repeat' first|simp only[go_sem,seval,hl,ic,List.replicate_zero]|(refine iz this rfl rfl hl.symm ?_)|refine cP (sK _) ?_|refine oE ?_|apply xX<;>intro hc
   have h1:num a+num b<256^i:=by
    have g1:=cF a;have g2:=cF b;have p1:256^a.length<=256^(i-1):=cQ oC oO;have p2:256^b.length<=256^(i-1):=cQ oC oO;have p3:256^i=256^(i-1)*256:=by rw[<-Nat.pow_succ];congr 1;omega
    omega
   rw[jO h1];simp only[jc,iR,hva,hvb,cT,aB]
   split<;>simp
theorem RS (a b:Bytes) (ha:a.length<=128) (hb:b.length<=128) (h:num b<=num a):aE 270 [.s a, .s b] (.s (bQ (num a-num b))):=by
 obtain⟨n,hn⟩: ∃n,n=a.length:=⟨_,rfl⟩;refine eW call270 func270 ?_;simp only[go_sem,seval,<-hn];repeat' first|simp only[go_sem,seval,<-hn,n8]|refine oE ?_|apply xX<;>intro hc
 refine ak (α:=Nat) (fun i=>n-i) (fun i=>⟨[(0, .v (.s a)),(1, .v (.s b)),(5, .v (.i .i64 n)),(6, .rs 1005 0 0 n 1),(7, .v (.i .i64 (borrow (num a) (num b) (256^i)))),(14, .v (.i .i64 n)),(15, .v (.i .i64 i))],[(1005,⟨0,aK (List.replicate (n-i) 0++be i (num a-num b)),false,none⟩)],1010⟩) (fun i=>i<=n) 0 (fun _=>aD _) (aO _) ?_ ?_
 ·(refine AS.Le.of (by first|decide|omega) ?_ ?_<;>simp[dw,du,aS,aC,AV.bd,AV.bd.bdL,u8,an,ar,aA])
  ·simp[borrow,mc]
  ·simp[be]
 ·intro i hi R hR;have hl:=pg n i (num a-num b) hi;have hp:=jh i;have hc1:=BF (num a) (num b) (256^i);have hb1:=wT (num a) (num b) hp;have hb2:=wS (num a) (num b) hp h;have e2:((n:Int)-1-i).toNat=n-1-i:=oO
  by_cases hlt:i<n
  ·repeat' first|simp only[go_sem,seval,hl]|refine cP (lA a i oO) ?_|refine cP (lA b i oO) ?_|refine oE ?_|apply xX<;>intro hc
   ·refine hR (i+1) oO oO _ ?_;rw[e2,tK (c:=UInt8.ofNat ((num a-num b)/256^i)) oO (by rw[Xj,iH,<-hb2 _ rfl];omega),iB hlt]
    (refine AS.Le.of (by first|decide|omega) ?_ ?_<;>simp[dw,du,aS,aC,AV.bd,AV.bd.bdL,u8,an,ar,aA])
    ·rw[Nat.pow_succ,hb1,ah hc];rfl
    ·rfl
   ·refine hR (i+1) oO oO _ ?_;rw[e2,tK (c:=UInt8.ofNat ((num a-num b)/256^i)) oO (by rw[Xj,iH,<-hb2 _ rfl]),iB hlt]
    (refine AS.Le.of (by first|decide|omega) ?_ ?_<;>simp[dw,du,aS,aC,AV.bd,AV.bd.bdL,u8,an,ar,aA])
    ·rw[Nat.pow_succ,hb1,af hc];rfl
    ·rfl
  ·obtain rfl:i=n:=oO;have:=kG (be i (num a-num b));have hl:(be i (num a-num b)).length=i:=cO _ _;repeat' first|simp only[go_sem,seval,hl,ic,List.replicate_zero]|(refine iz this rfl rfl hl.symm ?_)|refine oE ?_|apply xX<;>intro hc
   have h1:num a-num b<256^i:=by have:=cF a;rw[hn];omega
   rw[jO h1]
def sZ (a b:Bytes):Bytes×Int:=if aa a&&aa b then(if num b<=num a then(bQ (num a-num b),0)else([],2))else([],3)
theorem fx {a b:Nat}:aW a b<0↔a<b:=by unfold aW;split<;>(try split)<;>omega
theorem CD (a b:Bytes):aE 138 [.s a, .s b] (.tup [.s (sZ a b).1,E (sZ a b).2]):=by
 by_cases hv:aa a=true/\aa b=true
 case neg=>
  refine eW call138 func138 ?_;repeat' first|simp only[go_sem,seval]|refine cP (aI _) ?_|refine oE ?_|apply xX<;>intro hc
  all_goals simp_all[sZ]
 obtain⟨hva,hvb⟩:=hv;refine eW call138 func138 ?_;repeat' first|simp only[go_sem,seval]|refine cP (aI _) ?_|refine cP (pc (bL hva) (bL hvb)) ?_|(refine gQ (RS _ _ (dI hva) (dI hvb) (by rw[fx]at hc;omega)) rfl ?_)|refine oE ?_|apply xX<;>intro hc
 ·rw[fx]at hc;simp[sZ,hva,hvb,show¬num b<=num a by omega]
 ·rw[fx]at hc;simp[sZ,hva,hvb,show num b<=num a by omega]
end Go.Proofs.Tryz
namespace Go.Proofs.Tryz
open Go Go.Dom
theorem Xc {l:List Nat} {i:Nat} (h:i<l.length):(l.map fun n:Nat=>PV.i .u8 n).getD i .fn0= .i .u8 (l.getD i 0:Nat):=by
 simp[b9,h]
theorem ss (x:Nat) (h0:x≠0) (h:x<(2^64)):aE 394 [.i .u64 x] (E (Lib.ctz 64 x:Nat)):=by
 obtain⟨g1,g2⟩:=Lib.lowest_bit 64 x h0 h;obtain⟨g3,g4⟩:=Lib.deBruijn64_at _ g2;obtain⟨k,hk⟩: ∃k,k=Lib.ctz 64 x:=⟨_,rfl⟩;rw[<-hk]at g1 g2 g3 g4⊢;obtain⟨p,hp⟩: ∃p,p=2^k:=⟨_,rfl⟩;rw[<-hp]at g1 g3 g4;obtain⟨i,hi⟩: ∃i,i=p*285870213051353865%(2^64)/288230376151711744:=⟨_,rfl⟩;rw[<-hi]at g3 g4;have e1: ∀ _:True,IntKind.u64.wrap (0-(x:Int))=(((2^64)-x:Nat):Int):=fun _=>by rw[Bq];omega
 have e2: ∀ _:True,mN .u64 (x:Int) (((2^64)-x:Nat):Int)=((p:Nat):Int):=fun _=>by
  rw[ND .u64 rfl h (by show(2^64)-x<(2^64);omega)];exact congrArg _ g1
 have e3: ∀ _:True,p*285870213051353865%(2^64)/288230376151711744=i:=fun _=>hi.symm
 have e4:=Xc (l:=Lib.deBruijn64tab) (i:=i) (by exact g3)
 rw[g4]at e4;have e5: ∀ _:True,([(.i .u8 0),(.i .u8 1),(.i .u8 56),(.i .u8 2),(.i .u8 57),(.i .u8 49),(.i .u8 28),(.i .u8 3),(.i .u8 61),(.i .u8 58),(.i .u8 42),(.i .u8 50),(.i .u8 38),(.i .u8 29),(.i .u8 17),(.i .u8 4),(.i .u8 62),(.i .u8 47),(.i .u8 59),(.i .u8 36),(.i .u8 45),(.i .u8 43),(.i .u8 51),(.i .u8 22),(.i .u8 53),(.i .u8 39),(.i .u8 33),(.i .u8 30),(.i .u8 24),(.i .u8 18),(.i .u8 12),(.i .u8 5),(.i .u8 63),(.i .u8 55),(.i .u8 48),(.i .u8 27),(.i .u8 60),(.i .u8 41),(.i .u8 37),(.i .u8 16),(.i .u8 46),(.i .u8 35),(.i .u8 44),(.i .u8 21),(.i .u8 52),(.i .u8 32),(.i .u8 23),(.i .u8 11),(.i .u8 54),(.i .u8 26),(.i .u8 40),(.i .u8 15),(.i .u8 34),(.i .u8 20),(.i .u8 31),(.i .u8 10),(.i .u8 25),(.i .u8 14),(.i .u8 19),(.i .u8 9),(.i .u8 13),(.i .u8 8),(.i .u8 7),(.i .u8 6)]:List PV).getD i .fn0= .i .u8 (k:Nat):=fun _=>e4
 clear g1 g4 hi hp e4;refine eW call394 func394 ?_;simp only[go_sem,seval,e1 oT,e2 oT,ug,e3 oT,e5 oT];repeat' first|simp only[go_sem,seval,e1 oT,e2 oT,ug,e3 oT,e5 oT]|refine oE ?_|apply xX<;>intro hc
 all_goals skip
end Go.Proofs.Tryz
namespace Go.Dom
variable {L a b i k:Nat}
def le:List Nat->Nat
 |[]=>0
 |x::r=>x+256*le r
theorem Ob: ∀(l:List Nat) (p v:Nat),p<l.length->le (l.set p (l.getD p 0+v))=le l+v*256^p
 |x::r,0,v,_=>by simp[le];omega
 |x::r,p+1,v,h=>by
  have:=Ob r p v (by simpa using h)
  simp only[List.set_cons_succ,le,gM,this,Nat.pow_succ,jW];have e:256*(v*256^p)=v*(256^p*256):=by rw[bZ,cK]
  omega
theorem VH (n:Nat):le (List.replicate n 0)=0:=by induction n<;>simp_all[List.replicate_succ,le]
theorem zE: ∀(l:List Nat) (i:Nat),le l=le (l.take i)+256^i*le (l.drop i)
 |[],i=>by simp[le]
 |x::r,0=>by simp[le]
 |x::r,i+1=>by
  have:=zE r i;simp only[List.take_succ_cons,Ea,le,Nat.pow_succ];rw[this,jW,<-cK,bZ 256 (256^i)];omega
theorem ud {l:List Nat} (h:i<l.length):le (l.take (i+1))=le (l.take i)+l.getD i 0*256^i:=by
 have h1:=zE (l.take (i+1)) i;rw[List.take_take,pM (by omega)]at h1
 rw[h1];congr 1;have:(l.take (i+1)).drop i=[l.getD i 0]:=by
  rw[uW,show i+1-i=1 by omega,b9,cb h]
  rw[List.take_one,List.head?_drop,cb h];rfl
 rw[this];simp[le,bZ]
theorem tN {l:List Nat} {i T:Nat} (h:i<l.length) (hT:T=le l):(le (l.take i)/256^i+l.getD i 0)%256=T/256^i%256/\(le (l.take i)/256^i+l.getD i 0)/256=le (l.take (i+1))/256^(i+1):=by
 have h1:=ud h;have h2:=zE l (i+1);have hp:=gZ (n:=i) (show 0<256 by decide)
 have e1:le (l.take (i+1))/256^i=le (l.take i)/256^i+l.getD i 0:=by rw[h1,Nat.add_mul_div_right _ _ hp]
 rw[<-e1];constructor
 ·rw[hT,h2,Nat.pow_succ,cK,nX _ _ hp];omega
 ·rw[Nat.pow_succ,eZ]
def EG (m:Nat) (l:List Nat):Prop:= ∀i,l.getD i 0<=m
theorem EG.rep (n m:Nat):EG m (List.replicate n 0):=fun i=>by
 rw[b9]
 by_cases h:i<n<;>simp[h]
theorem EG.le {m:Nat} {l:List Nat} (h:EG m l) (i:Nat):Dom.le (l.take i)<=m*256^i:=by
 induction i with
 |zero=>simp[Dom.le]
 |succ i ih=>
  by_cases hi:i<l.length
  ·rw[ud hi,Nat.pow_succ];have:=dC (256^i) (h i);have e:m*(256^i*256)=m*256^i*256:=by rw[cK]
   omega
  ·rw[cZ (by omega)]at ih⊢
   exact gj ih (jd _ (cQ (by decide) (by omega)))
theorem EG.carry {m:Nat} {l:List Nat} (h:EG m l) (i:Nat):Dom.le (l.take i)/256^i<=m:=by
 have:=h.le i;exact Nat.div_le_of_le_mul (by rw[bZ];exact this)
structure xj (L a b i k:Nat) (l:List Nat):Prop where
 len:l.length=L
 v:le l=a%256^i*b+a/256^i%256*(b%256^k)*256^i
 lo:EG (65025*(i+1)) l
 hi: ∀j,i+k<=j->l.getD j 0<=65025*i
theorem xj.start (L a b:Nat):xj L a b 0 0 (List.replicate L 0):=⟨Eu,by rw[VH];simp[mc], .rep _ _,fun j _=>EG.rep L 0 j⟩
theorem xj.step {l:List Nat} (h:xj L a b i k l) (hp:i+k<L):xj L a b i (k+1) (l.set (i+k) (l.getD (i+k) 0+a/256^i%256*(b/256^k%256))):=by
 have hv:a/256^i%256*(b/256^k%256)<=65025:=jZ (by omega:a/256^i%256<=255) (by omega:b/256^k%256<=255)
 have hh:=h.hi (i+k) (aD _);refine⟨by simp[h.len],?_,fun j=> ?_,fun j hj=> ?_⟩
 ·rw[Ob _ _ _ (by rw[h.len];exact hp),h.v,lU]
  congr 1;have e:=pI (x:=b) (a:=256^k) (b:=256);rw[show 256^(k+1)=256^k*256 from Nat.pow_succ ..,e,dk]
  generalize a/256^i%256=x;generalize b/256^k%256=y;generalize b%256^k=z;rw[jW,dq,cK x y,cK x (256^k*y),bZ (256^i) (256^k),<-cK y,bZ y (256^k)]
 ·rw[b9,List.getElem?_set];split
  ·split
   ·simp only[Option.getD_some];omega
   ·simp
  ·have:=h.lo j;rw[b9]at this;exact this
 ·rw[b9,List.getElem?_set_ne (by omega),<-b9]
  exact h.hi j (by omega)
theorem xj.row {l:List Nat} (h:xj L a b i k l) (hk:b<256^k):xj L a b (i+1) 0 l:=by
 refine⟨h.len,?_,fun j=>by have:=h.lo j;omega,fun j _=>by have:=h.lo j;omega⟩
 rw[h.v,bE hk];have e:=pI (x:=a) (a:=256^i) (b:=256);rw[show 256^(i+1)=256^i*256 from Nat.pow_succ ..,e,dq]
 simp only[Nat.pow_zero,mc,Nat.mul_zero,uQ,Nat.add_zero];congr 1;rw[bZ (256^i),cK,cK,bZ b]
end Go.Dom
namespace Go.Proofs.Tryz
open Go Go.Dom
abbrev E' (n:Nat):AV:= .v (.i .i64 n)
theorem Af (n nm:Nat) (a b:Bytes) (la:a.length<=128) (lb:b.length<=128) (el:Option TypeId) (zs:List Nat) (hz:zs=List.replicate 256 0):j4 prog 296 nm [(n,⟨0,aF .i64 zs,false,el⟩)] [.v (.s a), .v (.s b), .p n 0 0] (.v (.s (bQ (num a*num b)))) [(n,none)]:=by
 refine j4.w mixed call296 func296 rfl (ka.1 _ _ _ (by cbv)) (ka.2 _ _ (by cbv)) (obs:=[⟨0,aF .i64 zs,false,el⟩]) (args:=[.v (.s a), .v (.s b), .p 0 0 0]) (fs:=[some none]) (j:=none) (nw:=none) (v:= .v (.s (bQ (num a*num b)))) (ns:=[n]) (obsA:=[⟨0,aF .i64 zs,false,el⟩]) rfl ?_ (by simp) (by simp) rfl (by simp[bc,aJ.aX,F9]) (by simp[bc,AV.aX,dz]) (by simp[AV.aX]) (by simp[fL,outs])
 have r1:(aF .i64 zs).length=256:=by rw[bC,hz,Eu]
 have r2:List.drop 256 (aF .i64 zs)=[]:=iu (by rw[r1];exact aD _)
 have r3:=sL .i64 256;rw[<-hz]at r3;simp only[go_sem,seval,r1,r2,r3,-List.reduceReplicate];refine ak (α:=Nat×List Nat) (fun x=>a.length-x.1) (fun x=>⟨[(0, .v (.s a)),(1, .v (.s b)),(2, .p 0 0 0),(18, .v (.i .i64 a.length)),(19, .v (.i .i64 x.1))],[(0,⟨0,aF .i64 x.2,false,el⟩)],_⟩) (fun x=>x.1<=a.length/\xj 256 (num a) (num b) x.1 0 x.2) (0,zs) (fun _=>aD _) ⟨aO _,hz▸ .start _ _ _⟩ ?_ ?_
 ·(refine AS.Le.of (by first|decide|omega) ?_ ?_<;>simp[dw,du,aS,aC,AV.bd,AV.bd.bdL,u8,an,ar,aA])
  all_goals skip
 ·rintro⟨i,l⟩ ⟨hi,hl⟩ R hR;simp only at hi hl;have l1:(aF .i64 l).length=256:=by rw[bC,hl.len]
  by_cases hlt:i<a.length
  ·repeat' first|simp only[go_sem,seval,l1]|refine cP (lA a i oO) ?_|refine oE ?_|apply xX<;>intro hc
   refine ak (α:=Nat×List Nat) (fun x=>b.length-x.1) (fun x=>⟨[(0, .v (.s a)),(1, .v (.s b)),(2, .p 0 0 0),(7,E' i),(8,E' (num a/256^i%256)),(18,E' a.length),(19,E' i),(26,E' b.length),(27,E' x.1)],[(0,⟨0,aF .i64 x.2,false,el⟩)],_⟩) (fun x=>x.1<=b.length/\xj 256 (num a) (num b) i x.1 x.2) (0,l) (fun _=>aD _) ⟨aO _,hl⟩ ?_ ?_
   ·exact lE
   ·rintro⟨k,m⟩ ⟨hk,hm⟩ R' hR';simp only at hk hm;have m1:(aF .i64 m).length=256:=by rw[bC,hm.len]
    by_cases hklt:k<b.length
    ·obtain⟨x,hx⟩: ∃x,x=num a/256^i%256:=⟨_,rfl⟩;obtain⟨y,hy⟩: ∃y,y=num b/256^k%256:=⟨_,rfl⟩;have hst:=hm.step oO;rw[<-hx,<-hy]at hst;have hxy:x*y<=65025:=jZ (by omega:x<=255) (by omega:y<=255)
     have hc:=hm.hi (i+k) (aD _);have g1: ∀ _:True,(aF .i64 m).getD ((i:Int)+(k:Int)).toNat .u= .v (.i .i64 (m.getD (i+k) 0:Nat)):=fun _=>by
      rw[show((i:Int)+(k:Int)).toNat=i+k by omega,dF (by rw[hm.len];omega)]
     have g2: ∀ _:True,IntKind.i64.wrap ((x:Int)*(y:Int))=((x*y:Nat):Int):=fun _=>by
      rw[<-Int.natCast_mul,IntWalk.i64_in _ oO]
     have g3: ∀ _:True,IntKind.i64.wrap (((m.getD (i+k) 0:Nat):Int)+((x*y:Nat):Int))=((m.getD (i+k) 0+x*y:Nat):Int):=fun _=>by
      rw[<-Int.natCast_add,IntWalk.i64_in _ oO]
     have hd:=lA b k oO;rw[<-hy]at hd;rw[<-hx];clear hy hxy;refine iy (aN @m1 (aN (g1 oT) (aN (g2 oT) (g3 oT)))) @hd ?_;refine hR' (k+1,m.set (i+k) (m.getD (i+k) 0+x*y)) ⟨by show k+1<= _;omega,hst⟩ (by show b.length-(k+1)<b.length-k;omega) _ ?_
     rw[show((i:Int)+(k:Int)).toNat=i+k by omega,eB (by rw[hm.len];omega) rfl]
     (refine AS.Le.of (by first|decide|omega) ?_ ?_<;>simp[dw,du,aS,aC,AV.bd,AV.bd.bdL,u8,an,ar,aA])
     rw[hx];simp
    ·obtain rfl:k=b.length:=oO;refine xF ?_;refine hR (i+1,m) ⟨by show i+1<= _;omega,hm.row (cF b)⟩ (by show a.length-(i+1)<a.length-i;omega) _ ?_
     exact lE
  ·obtain rfl:i=a.length:=oO;refine eJ (aN @l1 @n8) ?_;have hv:=hl.v;have ha:=cF a;rw[bE ha]at hv;simp only[Nat.pow_zero,mc,Nat.mul_zero,uQ,Nat.add_zero]at hv;obtain⟨n,hn⟩: ∃n,n=a.length+b.length:=⟨_,rfl⟩;have hn':((a.length:Int)+(b.length:Int))=(n:Int):=oO;obtain⟨T,hT⟩: ∃T,T=num a*num b:=⟨_,rfl⟩;rw[<-hT]at hv;have hTl:T<256^n:=by rw[hT,hn,dk];exact fO ha (cF b)
   rw[<-hT];simp only[hn',Int.toNat_natCast];refine ak (α:=Nat) (fun i=>n-i) (fun i=>⟨[(2, .p 0 0 0),(10,E' n),(11, .rs 1016 0 0 n 1),(12,E' (le (l.take i)/256^i)),(54,E' n),(55,E' i)],if i<n then[(0,⟨0,aF .i64 l,false,el⟩),(1016,⟨0,aK (List.replicate (n-i) 0++be i T),false,none⟩)]else[(1016,⟨0,aK (List.replicate (n-i) 0++be i T),false,none⟩)],_⟩) (fun i=>i<=n) 0 (fun _=>aD _) (aO _) ?_ ?_
   ·by_cases h0:0<n<;>simp only[h0,aB,az]<;>(refine AS.Le.of (by first|decide|omega) ?_ ?_<;>simp[dw,du,aS,aC,AV.bd,AV.bd.bdL,u8,an,ar,aA])<;>simp[le,be]
   ·intro i hi R hR;have hb:=pg n i T hi
    by_cases hlt:i<n
    ·obtain⟨e1,e2⟩:=tN (l:=l) (i:=i) (by rw[hl.len];omega) hv.symm
     have hm:=hl.lo i;have hc:=hl.lo.carry i;have g1: ∀ _:True,(aF .i64 l).getD i .u= .v (.i .i64 (l.getD i 0:Nat)):=fun _=>dF (by rw[hl.len];omega)
     have g2: ∀ _:True,IntKind.i64.wrap (((le (l.take i)/256^i:Nat):Int)+((l.getD i 0:Nat):Int))=((le (l.take i)/256^i+l.getD i 0:Nat):Int):=fun _=>by
      have hs:le (l.take i)/256^i+l.getD i 0<=65025*(a.length+1)+65025*(a.length+1):=Nat.add_le_add hc hm;rw[<-Int.natCast_add];generalize le (l.take i)/256^i+l.getD i 0=z at hs⊢;rw[IntWalk.i64_in _ oO]
     rw[ah hlt];clear e1 e2 hm hc;refine eJ (aN @l1 (aN (g1 oT) (aN (g2 oT) @hb))) ?_;obtain⟨e1,e2⟩:=tN (l:=l) (i:=i) (by rw[hl.len];omega) hv.symm
     refine hR (i+1) oO oO _ ?_;rw[e2,show((n:Int)-1-i).toNat=n-1-i by omega,tK (c:=UInt8.ofNat (T/256^i)) oO (by rw[kX,iH,iH];exact congrArg _ e1),iB hlt]
     by_cases h0:i+1<n<;>simp only[h0,aB,az]<;>(refine AS.Le.of (by first|decide|omega) ?_ ?_<;>simp[dw,du,aS,aC,AV.bd,AV.bd.bdL,u8,an,ar,aA])<;>rfl
    ·obtain rfl:i=n:=oO;have:=kG (be i T);have hl':(be i T).length=i:=cO _ _;rw[af hlt];repeat' first|simp only[go_sem,seval,hl',ic,List.replicate_zero,true_or,or_true,false_or,or_false,aq,iQ,ff,ix,fF,gp,e7,pU,qj,gT,iC,dW,aR,AV.aX,AV.aX.renL,aM]|(refine iz this rfl rfl hl'.symm ?_)|refine oE ?_|apply xX<;>intro hc
     rw[jO hTl]
def oh (a b:Bytes):Bytes×Int:=if aa a&&aa b then(if num a*num b<da then(bQ (num a*num b),0)else([],5))else([],3)
theorem dS {a:Bytes} (h:a.length<=8):num a<(2^64):=br (cF a) (cQ oC h)
theorem CB (a b:Bytes):aE 173 [.s a, .s b] (.tup [.s (oh a b).1,E (oh a b).2]):=by
 by_cases hv:aa a=true/\aa b=true
 case neg=>
  refine eW call173 func173 ?_;repeat' first|simp only[go_sem,seval]|refine cP (aI _) ?_|refine oE ?_|apply xX<;>intro hc
  all_goals simp_all[oh]
 obtain⟨hva,hvb⟩:=hv;have la:=dI hva;have lb:=dI hvb;have sa:=oz a;have sb:=oz b;rw[hva,cq]at sa;rw[hvb,cq]at sb;have hlim:(2^64)<=da:=by unfold da;decide+kernel
 by_cases h8:a.length<=8/\b.length<=8
 ·rw[aU h8.1]at sa;rw[aU h8.2]at sb;have ha:=dS h8.1;have hb:=dS h8.2;refine eW call173 func173 ?_;repeat' first|simp only[go_sem,seval,aB]|refine cP (aI _) ?_|refine cP sa ?_|refine cP sb ?_|refine cP (tE _ _ ha hb) ?_|refine cP (ql _ (aQ _ oC)) ?_|(refine bK (Af _ _ a b la lb _ (List.replicate 256 0) rfl) (by intro p hp;cases fz.1 hp;rfl) ?_)|refine cP (sK _) ?_|refine oE ?_|apply xX<;>intro hc
  ·have hp:num a*num b<(2^64):=oO;have hq:num a*num b<da:=br hp hlim;simp[oh,hva,hvb,hq,bE hp]
  ·simp only[jc,oh,hva,hvb,cT,aB]
   split<;>simp
 ·have hn: ¬(a.length<=8/\b.length<=8):=h8;have hx:(if decide (a.length<=8)=true then((num a:Nat):Int)else 0)=((if a.length<=8 then num a else 0:Nat):Int):=by by_cases g:a.length<=8<;>simp[g]
  have hy:(if decide (b.length<=8)=true then((num b:Nat):Int)else 0)=((if b.length<=8 then num b else 0:Nat):Int):=by by_cases g:b.length<=8<;>simp[g]
  rw[hx]at sa;rw[hy]at sb;have ha:(if a.length<=8 then num a else 0)<(2^64):=by split;exact dS ‹_›;decide
  have hb:(if b.length<=8 then num b else 0)<(2^64):=by split;exact dS ‹_›;decide
  refine eW call173 func173 ?_;repeat' first|simp only[go_sem,seval]|refine cP (aI _) ?_|refine cP sa ?_|refine cP sb ?_|refine cP (tE _ _ ha hb) ?_|(refine bK (Af _ _ a b la lb _ (List.replicate 256 0) rfl) (by intro p hp;cases fz.1 hp;rfl) ?_)|refine cP (sK _) ?_|refine oE ?_|apply xX<;>intro hc
  all_goals simp only[jc,oh,hva,hvb,cT,aB]
  all_goals (split<;>simp)
theorem aH (a:Bytes):aE 44 [.s a] (.b (aa a)):=by
 rw[wL];refine eW call44 func44 ?_;repeat' first|simp only[go_sem,seval]|refine oE ?_|apply xX<;>intro hc
 all_goals simp_all
 all_goals first|omega|(cases a<;>simp_all)
theorem Ia (l:Bytes) {i:Nat} (hi:i<l.length) (h:l.getD i 0=0):fK (l.drop i)=fK (l.drop (i+1)):=by
 rw[jQ hi,fK,ah (by rw[<-h,b9,cb hi];rfl)]
theorem Ib (l:Bytes) {i:Nat} (hi:i<l.length) (h:l.getD i 0≠0):fK (l.drop i)=l.drop i:=by
 rw[jQ hi,fK,af (by rw[b9,cb hi]at h;exact h)]
theorem qK (l:Bytes) (hl:l.length<4611686018427387904):aE 155 [.sl (l.map u8)] (.s (fK l)):=by
 refine eW call155 func155 ?_;simp only[go_sem,seval];refine ak (α:=Nat) (fun i=>l.length-i) (fun i=>⟨[(0, .v (.sl (l.map u8))),(3, .v (.i .i64 i))],[],_⟩) (fun i=>i<=l.length/\fK (l.drop i)=fK l) 0 (fun _=>aD _) ⟨aO _,rfl⟩ ?_ ?_
 ·exact lE
 ·rintro i ⟨hi,hx⟩ R hR
  by_cases hlt:i<l.length
  ·have e1:=RJ hlt
   by_cases h0:l.getD i 0=0
   ·have e2: ∀ _:True,(((l.getD i 0).toNat:Int)==0)=true:=fun _=>by rw[h0];rfl
    refine eJ (aN @e1 (e2 oT)) ?_;refine hR (i+1) ⟨oO,by rw[<-hx,Ia l hlt h0]⟩ oO _ ?_
    exact lE
   ·have e2: ∀ _:True,(((l.getD i 0).toNat:Int)==0)=false:=fun _=>by
     rw[dL];intro e;exact h0 (u8z e)
    rw[<-hx,Ib l hlt h0];refine eJ (aN @e1 (e2 oT)) ?_;refine⟨⟨oO,fun x hx=>yZ hx⟩,fun y hy=>vM (pJ hy),?_⟩
    rw[<-uH,yW]
  ·obtain rfl:i=l.length:=oO;rw[<-hx];refine xF ?_;refine⟨⟨oO,fun x hx=>yZ hx⟩,fun y hy=>vM (pJ hy),?_⟩
   rw[<-uH,yW,dj];rfl
theorem kB (n:Nat) (hn:n<18446744073709551616):aE 68 [.i .u64 n] (.s (bQ n)):=by
 refine eW call68 func68 ?_;refine qi ?_;refine ak (α:=Nat) (fun i=>8-i) (fun i=>⟨[(0, .v (.i .u64 (n/256^i:Nat))),(3, .rs 1001 0 0 8 1),(4, .v (.i .i64 (7-(i:Int))))],[(1001,⟨0,aK (List.replicate (8-i) 0++be i n),false,none⟩)],_⟩) (fun i=>i<=8) 0 (fun _=>aD _) (aO _) ?_ ?_
 ·(refine AS.Le.of (by first|decide|omega) ?_ ?_<;>simp[dw,du,aS,aC,AV.bd,AV.bd.bdL,u8,an,ar,aA])
  all_goals rfl
 ·intro i hi R hR;have hl:(List.replicate (8-i) (0:UInt8)++be i n).length=8:=by simp[cO];omega
  have hle:n/256^i<=n:=fg _ _
  by_cases hlt:i<8
  ·have e2: ∀ _:True,((7:Int)-i).toNat=8-1-i:=fun _=>oO
   have e3: ∀ _:True,n/256^i/256=n/256^(i+1):=fun _=>by rw[eZ,<-Nat.pow_succ]
   have hle2:n/256^(i+1)<=n:=fg _ _;have e4: ∀ _:True,IntKind.u64.wrap ((n/256^(i+1):Nat):Int)=((n/256^(i+1):Nat):Int):=fun _=>by
    generalize n/256^(i+1)=z at hle2⊢;exact IntWalk.u64_in _ oO
   refine eJ (aN @hl (aN (e3 oT) (e4 oT))) ?_;refine hR (i+1) oO oO _ ?_;rw[e2 oT,tK (c:=UInt8.ofNat (n/256^i)) oO (by rw[kX,iH,iH,eE]),iB hlt]
   (refine AS.Le.of (by first|decide|omega) ?_ ?_<;>simp[dw,du,aS,aC,AV.bd,AV.bd.bdL,u8,an,ar,aA])
   all_goals first|omega|rfl|skip
  ·obtain rfl:i=8:=oO;have:=qK (be 8 n) (by rw[cO];decide)
   have hl:(be 8 n).length=8:=cO 8 n;repeat' first|simp only[go_sem,seval,hl]|(refine iz this rfl rfl hl.symm ?_)|refine oE ?_|apply xX<;>intro hc
   rw[jO oO]
theorem uk (a:Bytes) (hl:a.length<=8):aE 360 [.s a] (.i .u64 (num a)):=by
 refine eW call360 func360 ?_;refine qi ?_;refine ak (α:=Nat) (fun i=>a.length-i) (fun i=>⟨[(0, .v (.s a)),(3, .v (.i .u64 (num (a.take i)))),(4, .v (.i .i64 i))],[],_⟩) (fun i=>i<=a.length) 0 (fun _=>aD _) (aO _) ?_ ?_
 ·(refine AS.Le.of (by first|decide|omega) ?_ ?_<;>simp[dw,du,aS,aC,AV.bd,AV.bd.bdL,u8,an,ar,aA])
  all_goals rfl
 ·intro i hi R hR
  by_cases hlt:i<a.length
  ·have h1:=kU hlt;have h2:=cF (a.take (i+1));have h3:(256:Nat)^(a.take (i+1)).length<=256^8:=cQ oC (by simp;omega)
   refine xF ?_;refine hR (i+1) oO oO _ ?_;rw[h1]
   (refine AS.Le.of (by first|decide|omega) ?_ ?_<;>simp[dw,du,aS,aC,AV.bd,AV.bd.bdL,u8,an,ar,aA])
   all_goals first|omega|rfl|skip
  ·obtain rfl:i=a.length:=oO;rw[cl];exact z0
theorem fR {a b:Bytes} (ha:Canon a) (hb:Canon b) (la:a.length<4611686018427387904) (lb:b.length<4611686018427387904):aE 111 [.s a, .s b] (E (aW (num a) (num b))):=by
 by_cases h1:a.length<b.length
 ·have:=iN (a:=a) hb h1;have e:aW (num a) (num b)= -1:=by simp[aW,this]
  rw[e];refine eW call111 func111 ?_;exact z0
 by_cases h2:b.length<a.length
 ·have:=iN (a:=b) ha h2;have e:aW (num a) (num b)=1:=by unfold aW;rw[af oO,ah this]
  rw[e];refine eW call111 func111 ?_;exact z0
 have hl:a.length=b.length:=oO;rw[<-kp hl];refine eW call111 func111 ?_;refine qi ?_;refine ak (α:=Nat) (fun i=>a.length-i) (fun i=>⟨[(0, .v (.s a)),(1, .v (.s b)),(5, .v (.i .i64 i))],[],_⟩) (fun i=>i<=a.length/\Lib.compareBytes (a.drop i) (b.drop i)=Lib.compareBytes a b) 0 (fun _=>aD _) ⟨aO _,rfl⟩ ?_ ?_
 ·exact lE
 ·rintro i ⟨hi,hx⟩ R hR
  by_cases hlt:i<a.length
  ·have d1:a.drop i=a.getD i 0::a.drop (i+1):=by rw[jQ hlt,b9,cb hlt];rfl
   have hltb:i<b.length:=oO;have d2:b.drop i=b.getD i 0::b.drop (i+1):=by rw[jQ hltb,b9,cb hltb];rfl
   have hgo:=hR (i+1);rw[<-hx]at hgo⊢;rw[d1,d2]at hgo⊢;simp only[Lib.compareBytes]at hgo⊢;clear d1 d2 hx hR;have e1:a.getD i 0<b.getD i 0↔(a.getD i 0).toNat<(b.getD i 0).toNat:=yo;have e2:b.getD i 0<a.getD i 0↔(b.getD i 0).toNat<(a.getD i 0).toNat:=yo;simp only[e1,e2]at hgo⊢;obtain⟨x,hx⟩: ∃x,x=a.getD i 0:=⟨_,rfl⟩;obtain⟨y,hy⟩: ∃y,y=b.getD i 0:=⟨_,rfl⟩;rw[<-hx,<-hy]at hgo⊢;clear e1 e2;repeat' first|simp only[go_sem,seval,<-hx,<-hy]|refine oE ?_|apply xX<;>intro hc
   ·refine hgo ⟨oO,?_⟩ oO _ ?_
    ·rw[af oO,af oO]
    ·exact lE
   ·rw[ah oO]
   ·rw[af oO,ah oO]
  ·obtain rfl:i=a.length:=oO;refine xF ?_;rw[<-hx,dj,hl,dj];rfl
theorem gF (a b:Bytes):aE 46 [.s a, .s b] (E (if aa a&&aa b then aW (num a) (num b)else 0)):=by
 by_cases h:aa a=true/\aa b=true
 case neg=>
  refine eW call46 func46 ?_;repeat' first|simp only[go_sem,seval]|refine cP (aH _) ?_|refine oE ?_|apply xX<;>intro hc
  all_goals simp_all
 have la:=dI h.1;have lb:=dI h.2;have ho:=fR (bL h.1) (bL h.2) oO oO;refine eW call46 func46 ?_;repeat' first|simp only[go_sem,seval]|refine cP (aH _) ?_|refine cP ho ?_|refine oE ?_|apply xX<;>intro hc
 all_goals simp_all
theorem sS (a:Bytes) (i:Nat) (ha:a.length<4611686018427387904):aE 273 [.s a,E i] (E ((num a/256^i%256:Nat):Int)):=by
 refine eW call273 func273 ?_;repeat' first|simp only[go_sem,seval]|refine oE ?_|apply xX<;>intro hc
 ·rw[sP a oO];rfl
 ·have h:=vY a (i:=i) oO;rw[<-h,show((a.length:Int)-1-(i:Int)).toNat=a.length-1-i by omega]
  have:=(a.getD (a.length-1-i) 0).toNat_lt;rw[IntWalk.i64_in _ oO]
theorem FZ (a b:Bytes) (la:a.length<1099511627776) (lb:b.length<1099511627776):aE 142 [.s a, .s b] (.s (bQ (num a+num b))):=by
 have hmax:(if(b.length:Int)>(a.length:Int)then(b.length:Int)else(a.length:Int))=((max a.length b.length:Nat):Int):=by
  split<;>omega
 obtain⟨n,hn⟩: ∃n,n=max a.length b.length+1:=⟨_,rfl⟩;have hn2:((max a.length b.length:Nat):Int)+1=(n:Int):=oO;refine eW call142 func142 ?_;refine dH (aN @hmax (aN @hn2 @n8)) ?_;refine ak (α:=Nat) (fun i=>n-i) (fun i=>⟨[(0, .v (.s a)),(1, .v (.s b)),(5, .v (.i .i64 n)),(6, .rs 1009 0 0 n 1),(7, .v (.i .i64 (carry (num a) (num b) (256^i)))),(8, .v (.i .i64 i))],[(1009,⟨0,aK (List.replicate (n-i) 0++be i (num a+num b)),false,none⟩)],_⟩) (fun i=>i<=n) 0 (fun _=>aD _) (aO _) ?_ ?_
 ·(refine AS.Le.of (by first|decide|omega) ?_ ?_<;>simp[dw,du,aS,aC,AV.bd,AV.bd.bdL,u8,an,ar,aA])
  ·simp[carry,mc]
  ·simp[be]
 ·intro i hi R hR;have hl:=pg n i (num a+num b) hi;have hp:=jh i;have hc1:=EU (num a) (num b) hp
  by_cases hlt:i<n
  ·have e0: ∀ _:True,((num a/256^i%256:Nat):Int)+((num b/256^i%256:Nat):Int)+((carry (num a) (num b) (256^i):Nat):Int)=((carry (num a) (num b) (256^i)+(num a/256^i%256+num b/256^i%256):Nat):Int):=fun _=>oO
   repeat' first|simp only[go_sem,seval,hl,e0 oT]|refine cP (sS a i oO) ?_|refine cP (sS b i oO) ?_|refine oE ?_|apply xX<;>intro hc
   refine hR (i+1) oO oO _ ?_;have e2:((n:Int)-1-i).toNat=n-1-i:=oO;rw[e2,tK (c:=UInt8.ofNat ((num a+num b)/256^i)) oO (by rw[kX,<-yX _ _ hp,iH,iH,eE]),iB hlt,yY _ _ hp,<-Nat.pow_succ]
   (refine AS.Le.of (by first|decide|omega) ?_ ?_<;>simp[dw,du,aS,aC,AV.bd,AV.bd.bdL,u8,an,ar,aA])
   all_goals first|omega|rfl|skip
  ·obtain rfl:i=n:=oO;have:=qK (be i (num a+num b)) (by rw[cO];omega)
   have hl:(be i (num a+num b)).length=i:=cO _ _;repeat' first|simp only[go_sem,seval,hl,ic,List.replicate_zero]|(refine iz this rfl rfl hl.symm ?_)|refine oE ?_|apply xX<;>intro hc
   have h1:num a+num b<256^i:=by
    have g1:=cF a;have g2:=cF b;have p1:256^a.length<=256^(i-1):=cQ oC oO;have p2:256^b.length<=256^(i-1):=cQ oC oO;have p3:256^i=256^(i-1)*256:=by rw[<-Nat.pow_succ];congr 1;omega
    omega
   rw[jO h1]
theorem mC (a b:Bytes) (la:a.length<1099511627776) (lb:b.length<1099511627776) (h:num b<=num a):aE 230 [.s a, .s b] (.s (bQ (num a-num b))):=by
 obtain⟨n,hn⟩: ∃n,n=a.length:=⟨_,rfl⟩;refine eW call230 func230 ?_;simp only[go_sem,seval,<-hn];repeat' first|simp only[go_sem,seval,<-hn,n8]|refine oE ?_|apply xX<;>intro hc
 refine ak (α:=Nat) (fun i=>n-i) (fun i=>⟨[(0, .v (.s a)),(1, .v (.s b)),(5, .v (.i .i64 n)),(6, .rs 1005 0 0 n 1),(7, .v (.i .i64 (borrow (num a) (num b) (256^i)))),(8, .v (.i .i64 i))],[(1005,⟨0,aK (List.replicate (n-i) 0++be i (num a-num b)),false,none⟩)],_⟩) (fun i=>i<=n) 0 (fun _=>aD _) (aO _) ?_ ?_
 ·(refine AS.Le.of (by first|decide|omega) ?_ ?_<;>simp[dw,du,aS,aC,AV.bd,AV.bd.bdL,u8,an,ar,aA])
  ·simp[borrow,mc]
  ·simp[be]
 ·intro i hi R hR;have hl:=pg n i (num a-num b) hi;have hp:=jh i;have hc1:=BF (num a) (num b) (256^i);have hb1:=wT (num a) (num b) hp;have hb2:=wS (num a) (num b) hp h;have e2:((n:Int)-1-i).toNat=n-1-i:=oO
  by_cases hlt:i<n
  ·repeat' first|simp only[go_sem,seval,hl]|refine cP (sS a i oO) ?_|refine cP (sS b i oO) ?_|refine oE ?_|apply xX<;>intro hc
   ·refine hR (i+1) oO oO _ ?_;rw[e2,tK (c:=UInt8.ofNat ((num a-num b)/256^i)) oO (by rw[Xj,iH,<-hb2 _ rfl];omega),iB hlt]
    (refine AS.Le.of (by first|decide|omega) ?_ ?_<;>simp[dw,du,aS,aC,AV.bd,AV.bd.bdL,u8,an,ar,aA])
    ·rw[Nat.pow_succ,hb1,ah hc];rfl
    ·rfl
   ·refine hR (i+1) oO oO _ ?_;rw[e2,tK (c:=UInt8.ofNat ((num a-num b)/256^i)) oO (by rw[Xj,iH,<-hb2 _ rfl]),iB hlt]
    (refine AS.Le.of (by first|decide|omega) ?_ ?_<;>simp[dw,du,aS,aC,AV.bd,AV.bd.bdL,u8,an,ar,aA])
    ·rw[Nat.pow_succ,hb1,af hc];rfl
    ·rfl
  ·obtain rfl:i=n:=oO;have:=qK (be i (num a-num b)) (by rw[cO];omega)
   have hl:(be i (num a-num b)).length=i:=cO _ _;repeat' first|simp only[go_sem,seval,hl,ic,List.replicate_zero]|(refine iz this rfl rfl hl.symm ?_)|refine oE ?_|apply xX<;>intro hc
   have h1:num a-num b<256^i:=by have:=cF a;rw[hn];omega
   rw[jO h1]
end Go.Proofs.Tryz
namespace Go.Proofs.Tryz
open Go Go.Dom
theorem ru (a b:Bytes) (la:a.length<1048576) (lb:b.length<1048576):aE 359 [.s a, .s b] (.s (bQ (num a*num b))):=by
 obtain⟨n,hn⟩: ∃n,n=a.length+b.length:=⟨_,rfl⟩;have hn':((a.length:Int)+(b.length:Int))=(n:Int):=oO;have hmul:num a*num b<256^n:=by rw[hn,dk];exact fO (cF a) (cF b)
 by_cases h8:n<=8
 ·have hu1:=uk a oO;have hu2:=uk b oO;have hp:num a*num b<(2^64):=br hmul (cQ oC h8);have ho:=kB (num a*num b) hp;have hw: ∀ _:True,IntKind.u64.wrap ((num a:Int)*(num b:Int))=((num a*num b:Nat):Int):=fun _=>by
   rw[<-Int.natCast_mul,IntWalk.u64_in _ oO]
  clear hmul;refine eW call359 func359 ?_;exact wO (aN @hn' (hw oT)) @hu1 @hu2 @ho oT
 have hcz: ∀m:Nat,(List.replicate m [AV.v (PV.i IntKind.i64 0)]).flatten=aF .i64 (List.replicate m 0):=by
  intro m
  induction m with
  |zero=>rfl
  |succ m ih=>rw[List.replicate_succ,List.flatten_cons,ih,List.replicate_succ];rfl
 have hw1: ∀ _:True,((n:Int)+1)=((n+1:Nat):Int):=fun _=>rfl
 refine eW call359 func359 ?_;refine dH (aN @hn' (aN @n8 (aN (hw1 oT) @hcz))) ?_;refine ak (α:=Nat×List Nat) (fun x=>a.length-x.1) (fun x=>⟨[(0, .v (.s a)),(1, .v (.s b)),(5,E' n),(6, .rs 1015 0 0 (n+1) 1),(7, .v (.i .i64 x.1))],[(1015,⟨0,aF .i64 x.2,false,none⟩)],_⟩) (fun x=>x.1<=a.length/\xj (n+1) (num a) (num b) x.1 0 x.2) (0,List.replicate (n+1) 0) (fun _=>aD _) ⟨aO _, .start _ _ _⟩ ?_ ?_
 ·(refine AS.Le.of (by first|decide|omega) ?_ ?_<;>simp[dw,du,aS,aC,AV.bd,AV.bd.bdL,u8,an,ar,aA])
  all_goals skip
 ·rintro⟨i,l⟩ ⟨hi,hl⟩ R hR;simp only at hi hl;have l1:(aF .i64 l).length=n+1:=by rw[bC,hl.len]
  by_cases hlt:i<a.length
  ·refine dH @l1 ?_;refine ak (α:=Nat×List Nat) (fun x=>b.length-x.1) (fun x=>⟨[(0, .v (.s a)),(1, .v (.s b)),(5,E' n),(6, .rs 1015 0 0 (n+1) 1),(7,E' i),(8,E' x.1)],[(1015,⟨0,aF .i64 x.2,false,none⟩)],_⟩) (fun x=>x.1<=b.length/\xj (n+1) (num a) (num b) i x.1 x.2) (0,l) (fun _=>aD _) ⟨aO _,hl⟩ ?_ ?_
   ·exact lE
   ·rintro⟨k,m⟩ ⟨hk,hm⟩ R' hR';simp only at hk hm;have m1:(aF .i64 m).length=n+1:=by rw[bC,hm.len]
    by_cases hklt:k<b.length
    ·obtain⟨x,hx⟩: ∃x,x=num a/256^i%256:=⟨_,rfl⟩;obtain⟨y,hy⟩: ∃y,y=num b/256^k%256:=⟨_,rfl⟩;have hst:=hm.step oO;rw[<-hx,<-hy]at hst;have hxy:x*y<=65025:=jZ (by omega:x<=255) (by omega:y<=255)
     have hc:=hm.hi (i+k) (aD _);have g1: ∀ _:True,(aF .i64 m).getD ((i:Int)+(k:Int)).toNat .u= .v (.i .i64 (m.getD (i+k) 0:Nat)):=fun _=>by
      rw[show((i:Int)+(k:Int)).toNat=i+k by omega,dF (by rw[hm.len];omega)]
     have g2: ∀ _:True,IntKind.i64.wrap ((x:Int)*(y:Int))=((x*y:Nat):Int):=fun _=>by
      rw[<-Int.natCast_mul,IntWalk.i64_in _ oO]
     have g3: ∀ _:True,IntKind.i64.wrap (((m.getD (i+k) 0:Nat):Int)+((x*y:Nat):Int))=((m.getD (i+k) 0+x*y:Nat):Int):=fun _=>by
      rw[<-Int.natCast_add,IntWalk.i64_in _ oO]
     have hd1:=sS a i oO;have hd:=sS b k oO;rw[<-hy]at hd;rw[<-hx]at hd1;clear hy hxy hx;refine tu (aN @m1 (aN (g1 oT) (aN (g2 oT) (g3 oT)))) @hd1 @hd ?_;refine hR' (k+1,m.set (i+k) (m.getD (i+k) 0+x*y)) ⟨by show k+1<= _;omega,hst⟩ (by show b.length-(k+1)<b.length-k;omega) _ ?_
     rw[show((i:Int)+(k:Int)).toNat=i+k by omega,eB (by rw[hm.len];omega) rfl]
     exact lE
    ·obtain rfl:k=b.length:=oO;refine xF ?_;refine hR (i+1,m) ⟨by show i+1<= _;omega,hm.row (cF b)⟩ (by show a.length-(i+1)<a.length-i;omega) _ ?_
     exact lE
  ·obtain rfl:i=a.length:=oO;refine eJ (aN @l1 @n8) ?_;have hv:=hl.v;have ha:=cF a;rw[bE ha]at hv;simp only[Nat.pow_zero,mc,Nat.mul_zero,uQ,Nat.add_zero]at hv;obtain⟨T,hT⟩: ∃T,T=num a*num b:=⟨_,rfl⟩;rw[<-hT]at hv;have hTl:T<256^n:=by rw[hT];exact hmul
   rw[<-hT];refine ak (α:=Nat) (fun i=>n-i) (fun i=>⟨[(5,E' n),(6, .rs 1015 0 0 (n+1) 1),(9, .rs 1023 0 0 n 1),(10,E' (le (l.take i)/256^i)),(11,E' i)],[(1015,⟨0,aF .i64 l,false,none⟩),(1023,⟨0,aK (List.replicate (n-i) 0++be i T),false,none⟩)],_⟩) (fun i=>i<=n) 0 (fun _=>aD _) (aO _) ?_ ?_
   ·(refine AS.Le.of (by first|decide|omega) ?_ ?_<;>simp[dw,du,aS,aC,AV.bd,AV.bd.bdL,u8,an,ar,aA])
    all_goals first|rfl|simp[le,be]
   ·intro i hi R hR;have hb:=pg n i T hi
    by_cases hlt:i<n
    ·obtain⟨e1,e2⟩:=tN (l:=l) (i:=i) (by rw[hl.len];omega) hv.symm
     have hm:=hl.lo i;have hc:=hl.lo.carry i;have g1: ∀ _:True,(aF .i64 l).getD i .u= .v (.i .i64 (l.getD i 0:Nat)):=fun _=>dF (by rw[hl.len];omega)
     have g2: ∀ _:True,IntKind.i64.wrap (((l.getD i 0:Nat):Int)+((le (l.take i)/256^i:Nat):Int))=((le (l.take i)/256^i+l.getD i 0:Nat):Int):=fun _=>by
      have hs:le (l.take i)/256^i+l.getD i 0<=65025*(a.length+1)+65025*(a.length+1):=Nat.add_le_add hc hm;rw[<-Int.natCast_add,gN];generalize le (l.take i)/256^i+l.getD i 0=z at hs⊢;rw[IntWalk.i64_in _ oO]
     clear e1 e2 hm hc;refine eJ (aN @l1 (aN (g1 oT) (aN (g2 oT) @hb))) ?_;obtain⟨e1,e2⟩:=tN (l:=l) (i:=i) (by rw[hl.len];omega) hv.symm
     have hs:le (l.take (i+1))/256^(i+1)<=65025*(a.length+1):=hl.lo.carry (i+1);have hw:IntKind.i64.wrap ((le (l.take (i+1))/256^(i+1):Nat):Int)=((le (l.take (i+1))/256^(i+1):Nat):Int):=by
      generalize le (l.take (i+1))/256^(i+1)=z at hs⊢;rw[IntWalk.i64_in _ oO]
     refine hR (i+1) oO oO _ ?_;rw[e2,hw,show((n:Int)-1-i).toNat=n-1-i by omega,tK (c:=UInt8.ofNat (T/256^i)) oO (by rw[kX,iH,iH];exact congrArg _ oO),iB hlt]
     (refine AS.Le.of (by first|decide|omega) ?_ ?_<;>simp[dw,du,aS,aC,AV.bd,AV.bd.bdL,u8,an,ar,aA])
     all_goals rfl
    ·obtain rfl:i=n:=oO;have:=qK (be i T) (by rw[cO];omega)
     have hl':(be i T).length=i:=cO _ _;repeat' first|simp only[go_sem,seval,hl',ic,List.replicate_zero]|(refine iz this rfl rfl hl'.symm ?_)|refine oE ?_|apply xX<;>intro hc
     rw[jO hTl]
