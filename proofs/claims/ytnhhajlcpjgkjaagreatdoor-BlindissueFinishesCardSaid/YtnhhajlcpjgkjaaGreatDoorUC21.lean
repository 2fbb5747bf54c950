/- Part of the proof. -/
import Derived.Test.YtnhhajlcpjgkjaaGreatDoorUC20
set_option linter.all false
set_option maxHeartbeats 8000000
set_option maxRecDepth 100000
namespace Go.Proofs.Tryz
open Go Go.Dom
theorem pz (n:Nat) (hn:n<18446744073709551616):aE 86 [.i .u64 n] (.s (bR n)):=by
 refine eW call86 func86 ?_;simp only[go_sem,seval];refine ak (α:=Nat) (fun i=>8-i) (fun i=>⟨[(0, .v (.i .u64 n)),(3, .p 1001 0 0),(5, .v (.i .i64 i))],[(1001,⟨0,aJ (List.replicate (8-i) 0++be i n),false,some 237⟩)],1003⟩) (fun i=>i<=8) 0 (fun _=>aD _) (aR _) ?_ ?_
 ·(refine AS.Le.of (by first|decide|omega) ?_ ?_<;>simp[dA,dz,aS,aB,AV.bd,AV.bd.bdL,u8,aq,au,aA]);rfl
 ·intro i hi R hR;have hl:(List.replicate (8-i) (0:UInt8)++be i n).length=8:=by simp[cH];omega
  by_cases hlt:i<8
  ·refine eC @hl ?_;refine hR (i+1) oO oO _ ?_;have e1:(8*(i:Int)).toNat=8*i:=oO;have e2:((7:Int)-i).toNat=8-1-i:=oO;have e3:IntKind.u8.wrap ((n/2^(8*i):Nat):Int)=((UInt8.ofNat (n/256^i)).toNat:Int):=by
    rw[kA,jA]
   rw[e1,e2,ah oO,ss oO e3,ia hlt]
   (refine AS.Le.of (by first|decide|omega) ?_ ?_<;>simp[dA,dz,aS,aB,AV.bd,AV.bd.bdL,u8,aq,au,aA]);rfl
  ·obtain rfl:i=8:=oO;have:=jW (be 8 n);have hl:(be 8 n).length=8:=cH 8 n;repeat' first|simp only[go_sem,seval,hl]|(refine gZ this rfl rfl hl.symm ?_)|refine oE ?_|apply xX<;>intro hc
   rw[js oO]
def dC:Nat:=256^128
theorem kZ {n:Nat}:(bR n).length<=128↔n<dC:=n8
def iC (a b:Bytes):Bytes×Int:=if aa a&&aa b then(if num a+num b<dC then(bR (num a+num b),0)else([],5))else([],3)
theorem nr (n:Nat):(List.replicate n [AV.v (PV.i IntKind.u8 0)]).flatten=aJ (List.replicate n 0):=by
 induction n with
 |zero=>rfl
 |succ n ih=>simp[List.replicate_succ,aJ,u8]at ih⊢
theorem oh (n i x:Nat) (h:i<=n):(List.replicate (n-i) (0:UInt8)++be i x).length=n:=by simp[cH];omega
theorem Fs (a b:Bytes):aE 58 [.s a, .s b] (.tup [.s (iC a b).1,E (iC a b).2]):=by
 have hmax:(if(b.length:Int)>(a.length:Int)then(b.length:Int)else(a.length:Int))=((max a.length b.length:Nat):Int):=by
  split<;>omega
 by_cases hv:aa a=true/\aa b=true
 case neg=>
  refine eW call58 func58 ?_;repeat' first|simp only[go_sem,seval]|refine cP (aG _) ?_|refine oE ?_|apply xX<;>intro hc
  all_goals simp_all[iC]
 obtain⟨hva,hvb⟩:=hv;have la:=dD hva;have lb:=dD hvb;obtain⟨n,hn⟩: ∃n,n=max a.length b.length+1:=⟨_,rfl⟩;have hn2:((max a.length b.length:Nat):Int)+1=(n:Int):=oO;refine eW call58 func58 ?_;repeat' first|simp only[go_sem,seval,hmax,hn2,nr]|refine cP (aG _) ?_|refine oE ?_|apply xX<;>intro hc
 refine ak (α:=Nat) (fun i=>n-i) (fun i=>⟨[(0, .v (.s a)),(1, .v (.s b)),(6, .v (.i .i64 n)),(7, .rs 1018 0 0 n 1),(8, .v (.i .i64 (carry (num a) (num b) (256^i)))),(26, .v (.i .i64 n)),(27, .v (.i .i64 i))],[(1018,⟨0,aJ (List.replicate (n-i) 0++be i (num a+num b)),false,none⟩)],1023⟩) (fun i=>i<=n) 0 (fun _=>aD _) (aR _) ?_ ?_
 ·(refine AS.Le.of (by first|decide|omega) ?_ ?_<;>simp[dA,dz,aS,aB,AV.bd,AV.bd.bdL,u8,aq,au,aA])
  ·simp[carry,lA]
  ·simp[be]
 ·intro i hi R hR;have hl:=oh n i (num a+num b) hi;have hp:=iO i;have hc1:=DF (num a) (num b) hp
  by_cases hlt:i<n
  ·repeat' first|simp only[go_sem,seval,hl]|refine cP (kJ a i oO) ?_|refine cP (kJ b i oO) ?_|refine oE ?_|apply xX<;>intro hc
   refine hR (i+1) oO oO _ ?_;have e2:((n:Int)-1-i).toNat=n-1-i:=oO;have e0:((carry (num a) (num b) (256^i):Nat):Int)+(((num a/256^i%256:Nat):Int)+((num b/256^i%256:Nat):Int))=((carry (num a) (num b) (256^i)+(num a/256^i%256+num b/256^i%256):Nat):Int):=oO;rw[e0,e2,ss oO ((kA _).trans (by rw[xD _ _ hp])),ia hlt,show(256:Int)=((256:Nat):Int)from rfl,BF,xE _ _ hp,<-Nat.pow_succ]
   (refine AS.Le.of (by first|decide|omega) ?_ ?_<;>simp[dA,dz,aS,aB,AV.bd,AV.bd.bdL,u8,aq,au,aA]);rfl
  ·obtain rfl:i=n:=oO;have:=jW (be i (num a+num b));have hl:(be i (num a+num b)).length=i:=cH _ _;repeat' first|simp only[go_sem,seval,hl,gS,List.replicate_zero]|(refine gZ this rfl rfl hl.symm ?_)|refine cP (rv _) ?_|refine oE ?_|apply xX<;>intro hc
   have h1:num a+num b<256^i:=by
    have g1:=ct a;have g2:=ct b;have p1:256^a.length<=256^(i-1):=cM oC oO;have p2:256^b.length<=256^(i-1):=cM oC oO;have p3:256^i=256^(i-1)*256:=by rw[<-Nat.pow_succ];congr 1;omega
    omega
   rw[js h1];simp only[kZ,iC,hva,hvb,cX,az]
   split<;>simp
theorem P2 (a b:Bytes) (ha:a.length<=128) (hb:b.length<=128) (h:num b<=num a):aE 270 [.s a, .s b] (.s (bR (num a-num b))):=by
 obtain⟨n,hn⟩: ∃n,n=a.length:=⟨_,rfl⟩;refine eW call270 func270 ?_;simp only[go_sem,seval,<-hn];repeat' first|simp only[go_sem,seval,<-hn,nr]|refine oE ?_|apply xX<;>intro hc
 refine ak (α:=Nat) (fun i=>n-i) (fun i=>⟨[(0, .v (.s a)),(1, .v (.s b)),(5, .v (.i .i64 n)),(6, .rs 1005 0 0 n 1),(7, .v (.i .i64 (borrow (num a) (num b) (256^i)))),(14, .v (.i .i64 n)),(15, .v (.i .i64 i))],[(1005,⟨0,aJ (List.replicate (n-i) 0++be i (num a-num b)),false,none⟩)],1010⟩) (fun i=>i<=n) 0 (fun _=>aD _) (aR _) ?_ ?_
 ·(refine AS.Le.of (by first|decide|omega) ?_ ?_<;>simp[dA,dz,aS,aB,AV.bd,AV.bd.bdL,u8,aq,au,aA])
  ·simp[borrow,lA]
  ·simp[be]
 ·intro i hi R hR;have hl:=oh n i (num a-num b) hi;have hp:=iO i;have hc1:=Am (num a) (num b) (256^i);have hb1:=uZ (num a) (num b) hp;have hb2:=uY (num a) (num b) hp h;have e2:((n:Int)-1-i).toNat=n-1-i:=oO
  by_cases hlt:i<n
  ·repeat' first|simp only[go_sem,seval,hl]|refine cP (kJ a i oO) ?_|refine cP (kJ b i oO) ?_|refine oE ?_|apply xX<;>intro hc
   ·refine hR (i+1) oO oO _ ?_;rw[e2,ss (c:=UInt8.ofNat ((num a-num b)/256^i)) oO (by rw[VU,ig,<-hb2 _ rfl];omega),ia hlt]
    (refine AS.Le.of (by first|decide|omega) ?_ ?_<;>simp[dA,dz,aS,aB,AV.bd,AV.bd.bdL,u8,aq,au,aA])
    ·rw[Nat.pow_succ,hb1,ah hc];rfl
    ·rfl
   ·refine hR (i+1) oO oO _ ?_;rw[e2,ss (c:=UInt8.ofNat ((num a-num b)/256^i)) oO (by rw[VU,ig,<-hb2 _ rfl]),ia hlt]
    (refine AS.Le.of (by first|decide|omega) ?_ ?_<;>simp[dA,dz,aS,aB,AV.bd,AV.bd.bdL,u8,aq,au,aA])
    ·rw[Nat.pow_succ,hb1,af hc];rfl
    ·rfl
  ·obtain rfl:i=n:=oO;have:=jW (be i (num a-num b));have hl:(be i (num a-num b)).length=i:=cH _ _;repeat' first|simp only[go_sem,seval,hl,gS,List.replicate_zero]|(refine gZ this rfl rfl hl.symm ?_)|refine oE ?_|apply xX<;>intro hc
   have h1:num a-num b<256^i:=by have:=ct a;rw[hn];omega
   rw[js h1]
def rM (a b:Bytes):Bytes×Int:=if aa a&&aa b then(if num b<=num a then(bR (num a-num b),0)else([],2))else([],3)
theorem fy {a b:Nat}:aZ a b<0↔a<b:=by unfold aZ;split<;>(try split)<;>omega
theorem Bq (a b:Bytes):aE 138 [.s a, .s b] (.tup [.s (rM a b).1,E (rM a b).2]):=by
 by_cases hv:aa a=true/\aa b=true
 case neg=>
  refine eW call138 func138 ?_;repeat' first|simp only[go_sem,seval]|refine cP (aG _) ?_|refine oE ?_|apply xX<;>intro hc
  all_goals simp_all[rM]
 obtain⟨hva,hvb⟩:=hv;refine eW call138 func138 ?_;repeat' first|simp only[go_sem,seval]|refine cP (aG _) ?_|refine cP (oe (bG hva) (bG hvb)) ?_|(refine gp (P2 _ _ (dD hva) (dD hvb) (by rw[fy]at hc;omega)) rfl ?_)|refine oE ?_|apply xX<;>intro hc
 ·rw[fy]at hc;simp[rM,hva,hvb,show¬num b<=num a by omega]
 ·rw[fy]at hc;simp[rM,hva,hvb,show num b<=num a by omega]
end Go.Proofs.Tryz
namespace Go.Proofs.Tryz
open Go Go.Dom
theorem VN {l:List Nat} {i:Nat} (h:i<l.length):(l.map fun n:Nat=>PV.i .u8 n).getD i .fn0= .i .u8 (l.getD i 0:Nat):=by
 simp[ca,h]
theorem q9 (x:Nat) (h0:x≠0) (h:x<(2^64)):aE 394 [.i .u64 x] (E (Lib.ctz 64 x:Nat)):=by
 obtain⟨g1,g2⟩:=Lib.lowest_bit 64 x h0 h;obtain⟨g3,g4⟩:=Lib.deBruijn64_at _ g2;obtain⟨k,hk⟩: ∃k,k=Lib.ctz 64 x:=⟨_,rfl⟩;rw[<-hk]at g1 g2 g3 g4⊢;obtain⟨p,hp⟩: ∃p,p=2^k:=⟨_,rfl⟩;rw[<-hp]at g1 g3 g4;obtain⟨i,hi⟩: ∃i,i=p*285870213051353865%(2^64)/288230376151711744:=⟨_,rfl⟩;rw[<-hi]at g3 g4;have e1: ∀ _:True,IntKind.u64.wrap (0-(x:Int))=(((2^64)-x:Nat):Int):=fun _=>by rw[zZ];omega
 have e2: ∀ _:True,me .u64 (x:Int) (((2^64)-x:Nat):Int)=((p:Nat):Int):=fun _=>by
  rw[Md .u64 rfl h (by show(2^64)-x<(2^64);omega)];exact congrArg _ g1
 have e3: ∀ _:True,p*285870213051353865%(2^64)/288230376151711744=i:=fun _=>hi.symm
 have e4:=VN (l:=Lib.deBruijn64tab) (i:=i) (by exact g3)
 rw[g4]at e4;have e5: ∀ _:True,([(.i .u8 0),(.i .u8 1),(.i .u8 56),(.i .u8 2),(.i .u8 57),(.i .u8 49),(.i .u8 28),(.i .u8 3),(.i .u8 61),(.i .u8 58),(.i .u8 42),(.i .u8 50),(.i .u8 38),(.i .u8 29),(.i .u8 17),(.i .u8 4),(.i .u8 62),(.i .u8 47),(.i .u8 59),(.i .u8 36),(.i .u8 45),(.i .u8 43),(.i .u8 51),(.i .u8 22),(.i .u8 53),(.i .u8 39),(.i .u8 33),(.i .u8 30),(.i .u8 24),(.i .u8 18),(.i .u8 12),(.i .u8 5),(.i .u8 63),(.i .u8 55),(.i .u8 48),(.i .u8 27),(.i .u8 60),(.i .u8 41),(.i .u8 37),(.i .u8 16),(.i .u8 46),(.i .u8 35),(.i .u8 44),(.i .u8 21),(.i .u8 52),(.i .u8 32),(.i .u8 23),(.i .u8 11),(.i .u8 54),(.i .u8 26),(.i .u8 40),(.i .u8 15),(.i .u8 34),(.i .u8 20),(.i .u8 31),(.i .u8 10),(.i .u8 25),(.i .u8 14),(.i .u8 19),(.i .u8 9),(.i .u8 13),(.i .u8 8),(.i .u8 7),(.i .u8 6)]:List PV).getD i .fn0= .i .u8 (k:Nat):=fun _=>e4
 clear g1 g4 hi hp e4;refine eW call394 func394 ?_;simp only[go_sem,seval,e1 oT,e2 oT,sK,e3 oT,e5 oT];repeat' first|simp only[go_sem,seval,e1 oT,e2 oT,sK,e3 oT,e5 oT]|refine oE ?_|apply xX<;>intro hc
 all_goals skip
end Go.Proofs.Tryz
namespace Go.Dom
variable {L a b i k:Nat}
def le:List Nat->Nat
 |[]=>0
 |x::r=>x+256*le r
theorem Mn: ∀(l:List Nat) (p v:Nat),p<l.length->le (l.set p (l.getD p 0+v))=le l+v*256^p
 |x::r,0,v,_=>by simp[le];omega
 |x::r,p+1,v,h=>by
  have:=Mn r p v (by simpa using h)
  simp only[List.set_cons_succ,le,gi,this,Nat.pow_succ,jz];have e:256*(v*256^p)=v*(256^p*256):=by rw[bU,cA]
  omega
theorem Un (n:Nat):le (List.replicate n 0)=0:=by induction n<;>simp_all[List.replicate_succ,le]
theorem x9: ∀(l:List Nat) (i:Nat),le l=le (l.take i)+256^i*le (l.drop i)
 |[],i=>by simp[le]
 |x::r,0=>by simp[le]
 |x::r,i+1=>by
  have:=x9 r i;simp only[List.take_succ_cons,CG,le,Nat.pow_succ];rw[this,jz,<-cA,bU 256 (256^i)];omega
theorem sJ {l:List Nat} (h:i<l.length):le (l.take (i+1))=le (l.take i)+l.getD i 0*256^i:=by
 have h1:=x9 (l.take (i+1)) i;rw[List.take_take,o5 (by omega)]at h1
 rw[h1];congr 1;have:(l.take (i+1)).drop i=[l.getD i 0]:=by
  rw[tw,show i+1-i=1 by omega,ca,bZ h]
  rw[List.take_one,List.head?_drop,bZ h];rfl
 rw[this];simp[le,bU]
theorem sA {l:List Nat} {i T:Nat} (h:i<l.length) (hT:T=le l):(le (l.take i)/256^i+l.getD i 0)%256=T/256^i%256/\(le (l.take i)/256^i+l.getD i 0)/256=le (l.take (i+1))/256^(i+1):=by
 have h1:=sJ h;have h2:=x9 l (i+1);have hp:=gT (n:=i) (show 0<256 by decide)
 have e1:le (l.take (i+1))/256^i=le (l.take i)/256^i+l.getD i 0:=by rw[h1,Nat.add_mul_div_right _ _ hp]
 rw[<-e1];constructor
 ·rw[hT,h2,Nat.pow_succ,cA,nq _ _ hp];omega
 ·rw[Nat.pow_succ,eL]
def Dr (m:Nat) (l:List Nat):Prop:= ∀i,l.getD i 0<=m
theorem Dr.rep (n m:Nat):Dr m (List.replicate n 0):=fun i=>by
 rw[ca]
 by_cases h:i<n<;>simp[h]
theorem Dr.le {m:Nat} {l:List Nat} (h:Dr m l) (i:Nat):Dom.le (l.take i)<=m*256^i:=by
 induction i with
 |zero=>simp[Dom.le]
 |succ i ih=>
  by_cases hi:i<l.length
  ·rw[sJ hi,Nat.pow_succ];have:=dq (256^i) (h i);have e:m*(256^i*256)=m*256^i*256:=by rw[cA]
   omega
  ·rw[c9 (by omega)]at ih⊢
   exact fQ ih (kS _ (cM (by decide) (by omega)))
theorem Dr.carry {m:Nat} {l:List Nat} (h:Dr m l) (i:Nat):Dom.le (l.take i)/256^i<=m:=by
 have:=h.le i;exact Nat.div_le_of_le_mul (by rw[bU];exact this)
structure vz (L a b i k:Nat) (l:List Nat):Prop where
 len:l.length=L
 v:le l=a%256^i*b+a/256^i%256*(b%256^k)*256^i
 lo:Dr (65025*(i+1)) l
 hi: ∀j,i+k<=j->l.getD j 0<=65025*i
theorem vz.start (L a b:Nat):vz L a b 0 0 (List.replicate L 0):=⟨CM,by rw[Un];simp[lA], .rep _ _,fun j _=>Dr.rep L 0 j⟩
theorem vz.step {l:List Nat} (h:vz L a b i k l) (hp:i+k<L):vz L a b i (k+1) (l.set (i+k) (l.getD (i+k) 0+a/256^i%256*(b/256^k%256))):=by
 have hv:a/256^i%256*(b/256^k%256)<=65025:=j9 (by omega:a/256^i%256<=255) (by omega:b/256^k%256<=255)
 have hh:=h.hi (i+k) (aD _);refine⟨by simp[h.len],?_,fun j=> ?_,fun j hj=> ?_⟩
 ·rw[Mn _ _ _ (by rw[h.len];exact hp),h.v,kT]
  congr 1;have e:=oS (x:=b) (a:=256^k) (b:=256);rw[show 256^(k+1)=256^k*256 from Nat.pow_succ ..,e,cY]
  generalize a/256^i%256=x;generalize b/256^k%256=y;generalize b%256^k=z;rw[jz,dc,cA x y,cA x (256^k*y),bU (256^i) (256^k),<-cA y,bU y (256^k)]
 ·rw[ca,List.getElem?_set];split
  ·split
   ·simp only[Option.getD_some];omega
   ·simp
  ·have:=h.lo j;rw[ca]at this;exact this
 ·rw[ca,List.getElem?_set_ne (by omega),<-ca]
  exact h.hi j (by omega)
theorem vz.row {l:List Nat} (h:vz L a b i k l) (hk:b<256^k):vz L a b (i+1) 0 l:=by
 refine⟨h.len,?_,fun j=>by have:=h.lo j;omega,fun j _=>by have:=h.lo j;omega⟩
 rw[h.v,bw hk];have e:=oS (x:=a) (a:=256^i) (b:=256);rw[show 256^(i+1)=256^i*256 from Nat.pow_succ ..,e,dc]
 simp only[Nat.pow_zero,lA,Nat.mul_zero,th,Nat.add_zero];congr 1;rw[bU (256^i),cA,cA,bU b]
end Go.Dom
namespace Go.Proofs.Tryz
open Go Go.Dom
abbrev E' (n:Nat):AV:= .v (.i .i64 n)
theorem yH (n nm:Nat) (a b:Bytes) (la:a.length<=128) (lb:b.length<=128) (el:Option TypeId) (zs:List Nat) (hz:zs=List.replicate 256 0):jD prog 296 nm [(n,⟨0,aF .i64 zs,false,el⟩)] [.v (.s a), .v (.s b), .p n 0 0] (.v (.s (bR (num a*num b)))) [(n,none)]:=by
 refine jD.w mixed call296 func296 rfl (jJ.1 _ _ _ (by cbv)) (jJ.2 _ _ (by cbv)) (obs:=[⟨0,aF .i64 zs,false,el⟩]) (args:=[.v (.s a), .v (.s b), .p 0 0 0]) (fs:=[some none]) (j:=none) (nw:=none) (v:= .v (.s (bR (num a*num b)))) (ns:=[n]) (obsA:=[⟨0,aF .i64 zs,false,el⟩]) rfl ?_ (by simp) (by simp) rfl (by simp[aW,aH.aU,EI]) (by simp[aW,AV.aU,dp]) (by simp[AV.aU]) (by simp[fC,outs])
 have r1:(aF .i64 zs).length=256:=by rw[br,hz,CM]
 have r2:List.drop 256 (aF .i64 zs)=[]:=iS (by rw[r1];exact aD _)
 have r3:=rz .i64 256;rw[<-hz]at r3;simp only[go_sem,seval,r1,r2,r3,-List.reduceReplicate];refine ak (α:=Nat×List Nat) (fun x=>a.length-x.1) (fun x=>⟨[(0, .v (.s a)),(1, .v (.s b)),(2, .p 0 0 0),(18, .v (.i .i64 a.length)),(19, .v (.i .i64 x.1))],[(0,⟨0,aF .i64 x.2,false,el⟩)],_⟩) (fun x=>x.1<=a.length/\vz 256 (num a) (num b) x.1 0 x.2) (0,zs) (fun _=>aD _) ⟨aR _,hz▸ .start _ _ _⟩ ?_ ?_
 ·(refine AS.Le.of (by first|decide|omega) ?_ ?_<;>simp[dA,dz,aS,aB,AV.bd,AV.bd.bdL,u8,aq,au,aA])
  all_goals skip
 ·rintro⟨i,l⟩ ⟨hi,hl⟩ R hR;simp only at hi hl;have l1:(aF .i64 l).length=256:=by rw[br,hl.len]
  by_cases hlt:i<a.length
  ·repeat' first|simp only[go_sem,seval,l1]|refine cP (kJ a i oO) ?_|refine oE ?_|apply xX<;>intro hc
   refine ak (α:=Nat×List Nat) (fun x=>b.length-x.1) (fun x=>⟨[(0, .v (.s a)),(1, .v (.s b)),(2, .p 0 0 0),(7,E' i),(8,E' (num a/256^i%256)),(18,E' a.length),(19,E' i),(26,E' b.length),(27,E' x.1)],[(0,⟨0,aF .i64 x.2,false,el⟩)],_⟩) (fun x=>x.1<=b.length/\vz 256 (num a) (num b) i x.1 x.2) (0,l) (fun _=>aD _) ⟨aR _,hl⟩ ?_ ?_
   ·exact lE
   ·rintro⟨k,m⟩ ⟨hk,hm⟩ R' hR';simp only at hk hm;have m1:(aF .i64 m).length=256:=by rw[br,hm.len]
    by_cases hklt:k<b.length
    ·obtain⟨x,hx⟩: ∃x,x=num a/256^i%256:=⟨_,rfl⟩;obtain⟨y,hy⟩: ∃y,y=num b/256^k%256:=⟨_,rfl⟩;have hst:=hm.step oO;rw[<-hx,<-hy]at hst;have hxy:x*y<=65025:=j9 (by omega:x<=255) (by omega:y<=255)
     have hc:=hm.hi (i+k) (aD _);have g1: ∀ _:True,(aF .i64 m).getD ((i:Int)+(k:Int)).toNat .u= .v (.i .i64 (m.getD (i+k) 0:Nat)):=fun _=>by
      rw[show((i:Int)+(k:Int)).toNat=i+k by omega,du (by rw[hm.len];omega)]
     have g2: ∀ _:True,IntKind.i64.wrap ((x:Int)*(y:Int))=((x*y:Nat):Int):=fun _=>by
      rw[<-Int.natCast_mul,IntWalk.i64_in _ oO]
     have g3: ∀ _:True,IntKind.i64.wrap (((m.getD (i+k) 0:Nat):Int)+((x*y:Nat):Int))=((m.getD (i+k) 0+x*y:Nat):Int):=fun _=>by
      rw[<-Int.natCast_add,IntWalk.i64_in _ oO]
     have hd:=kJ b k oO;rw[<-hy]at hd;rw[<-hx];clear hy hxy;refine jd (aN @m1 (aN (g1 oT) (aN (g2 oT) (g3 oT)))) @hd ?_;refine hR' (k+1,m.set (i+k) (m.getD (i+k) 0+x*y)) ⟨by show k+1<= _;omega,hst⟩ (by show b.length-(k+1)<b.length-k;omega) _ ?_
     rw[show((i:Int)+(k:Int)).toNat=i+k by omega,dT (by rw[hm.len];omega) rfl]
     (refine AS.Le.of (by first|decide|omega) ?_ ?_<;>simp[dA,dz,aS,aB,AV.bd,AV.bd.bdL,u8,aq,au,aA])
     rw[hx];simp
    ·obtain rfl:k=b.length:=oO;refine vP ?_;refine hR (i+1,m) ⟨by show i+1<= _;omega,hm.row (ct b)⟩ (by show a.length-(i+1)<a.length-i;omega) _ ?_
     exact lE
  ·obtain rfl:i=a.length:=oO;refine eC (aN @l1 @nr) ?_;have hv:=hl.v;have ha:=ct a;rw[bw ha]at hv;simp only[Nat.pow_zero,lA,Nat.mul_zero,th,Nat.add_zero]at hv;obtain⟨n,hn⟩: ∃n,n=a.length+b.length:=⟨_,rfl⟩;have hn':((a.length:Int)+(b.length:Int))=(n:Int):=oO;obtain⟨T,hT⟩: ∃T,T=num a*num b:=⟨_,rfl⟩;rw[<-hT]at hv;have hTl:T<256^n:=by rw[hT,hn,cY];exact fE ha (ct b)
   rw[<-hT];simp only[hn',Int.toNat_natCast];refine ak (α:=Nat) (fun i=>n-i) (fun i=>⟨[(2, .p 0 0 0),(10,E' n),(11, .rs 1016 0 0 n 1),(12,E' (le (l.take i)/256^i)),(54,E' n),(55,E' i)],if i<n then[(0,⟨0,aF .i64 l,false,el⟩),(1016,⟨0,aJ (List.replicate (n-i) 0++be i T),false,none⟩)]else[(1016,⟨0,aJ (List.replicate (n-i) 0++be i T),false,none⟩)],_⟩) (fun i=>i<=n) 0 (fun _=>aD _) (aR _) ?_ ?_
   ·by_cases h0:0<n<;>simp only[h0,az,ar]<;>(refine AS.Le.of (by first|decide|omega) ?_ ?_<;>simp[dA,dz,aS,aB,AV.bd,AV.bd.bdL,u8,aq,au,aA])<;>simp[le,be]
   ·intro i hi R hR;have hb:=oh n i T hi
    by_cases hlt:i<n
    ·obtain⟨e1,e2⟩:=sA (l:=l) (i:=i) (by rw[hl.len];omega) hv.symm
     have hm:=hl.lo i;have hc:=hl.lo.carry i;have g1: ∀ _:True,(aF .i64 l).getD i .u= .v (.i .i64 (l.getD i 0:Nat)):=fun _=>du (by rw[hl.len];omega)
     have g2: ∀ _:True,IntKind.i64.wrap (((le (l.take i)/256^i:Nat):Int)+((l.getD i 0:Nat):Int))=((le (l.take i)/256^i+l.getD i 0:Nat):Int):=fun _=>by
      have hs:le (l.take i)/256^i+l.getD i 0<=65025*(a.length+1)+65025*(a.length+1):=Nat.add_le_add hc hm;rw[<-Int.natCast_add];generalize le (l.take i)/256^i+l.getD i 0=z at hs⊢;rw[IntWalk.i64_in _ oO]
     rw[ah hlt];clear e1 e2 hm hc;refine eC (aN @l1 (aN (g1 oT) (aN (g2 oT) @hb))) ?_;obtain⟨e1,e2⟩:=sA (l:=l) (i:=i) (by rw[hl.len];omega) hv.symm
     refine hR (i+1) oO oO _ ?_;rw[e2,show((n:Int)-1-i).toNat=n-1-i by omega,ss (c:=UInt8.ofNat (T/256^i)) oO (by rw[kA,ig,ig];exact congrArg _ e1),ia hlt]
     by_cases h0:i+1<n<;>simp only[h0,az,ar]<;>(refine AS.Le.of (by first|decide|omega) ?_ ?_<;>simp[dA,dz,aS,aB,AV.bd,AV.bd.bdL,u8,aq,au,aA])<;>rfl
    ·obtain rfl:i=n:=oO;have:=jW (be i T);have hl':(be i T).length=i:=cH _ _;rw[af hlt];repeat' first|simp only[go_sem,seval,hl',gS,List.replicate_zero,true_or,or_true,false_or,or_false,an,iB,eS,gY,ft,fT,eN,pc,pq,gF,ib,dI,aO,AV.aU,AV.aU.renL,aK]|(refine gZ this rfl rfl hl'.symm ?_)|refine oE ?_|apply xX<;>intro hc
     rw[js hTl]
def ny (a b:Bytes):Bytes×Int:=if aa a&&aa b then(if num a*num b<dC then(bR (num a*num b),0)else([],5))else([],3)
theorem dO {a:Bytes} (h:a.length<=8):num a<(2^64):=b9 (ct a) (cM oC h)
theorem Bn (a b:Bytes):aE 173 [.s a, .s b] (.tup [.s (ny a b).1,E (ny a b).2]):=by
 by_cases hv:aa a=true/\aa b=true
 case neg=>
  refine eW call173 func173 ?_;repeat' first|simp only[go_sem,seval]|refine cP (aG _) ?_|refine oE ?_|apply xX<;>intro hc
  all_goals simp_all[ny]
 obtain⟨hva,hvb⟩:=hv;have la:=dD hva;have lb:=dD hvb;have sa:=nG a;have sb:=nG b;rw[hva,cj]at sa;rw[hvb,cj]at sb;have hlim:(2^64)<=dC:=by unfold dC;decide+kernel
 by_cases h8:a.length<=8/\b.length<=8
 ·rw[aV h8.1]at sa;rw[aV h8.2]at sb;have ha:=dO h8.1;have hb:=dO h8.2;refine eW call173 func173 ?_;repeat' first|simp only[go_sem,seval,az]|refine cP (aG _) ?_|refine cP sa ?_|refine cP sb ?_|refine cP (sh _ _ ha hb) ?_|refine cP (pz _ (aP _ oC)) ?_|(refine bE (yH _ _ a b la lb _ (List.replicate 256 0) rfl) (by intro p hp;cases fR.1 hp;rfl) ?_)|refine cP (rv _) ?_|refine oE ?_|apply xX<;>intro hc
  ·have hp:num a*num b<(2^64):=oO;have hq:num a*num b<dC:=b9 hp hlim;simp[ny,hva,hvb,hq,bw hp]
  ·simp only[kZ,ny,hva,hvb,cX,az]
   split<;>simp
 ·have hn: ¬(a.length<=8/\b.length<=8):=h8;have hx:(if decide (a.length<=8)=true then((num a:Nat):Int)else 0)=((if a.length<=8 then num a else 0:Nat):Int):=by by_cases g:a.length<=8<;>simp[g]
  have hy:(if decide (b.length<=8)=true then((num b:Nat):Int)else 0)=((if b.length<=8 then num b else 0:Nat):Int):=by by_cases g:b.length<=8<;>simp[g]
  rw[hx]at sa;rw[hy]at sb;have ha:(if a.length<=8 then num a else 0)<(2^64):=by split;exact dO ‹_›;decide
  have hb:(if b.length<=8 then num b else 0)<(2^64):=by split;exact dO ‹_›;decide
  refine eW call173 func173 ?_;repeat' first|simp only[go_sem,seval]|refine cP (aG _) ?_|refine cP sa ?_|refine cP sb ?_|refine cP (sh _ _ ha hb) ?_|(refine bE (yH _ _ a b la lb _ (List.replicate 256 0) rfl) (by intro p hp;cases fR.1 hp;rfl) ?_)|refine cP (rv _) ?_|refine oE ?_|apply xX<;>intro hc
  all_goals simp only[kZ,ny,hva,hvb,cX,az]
  all_goals (split<;>simp)
theorem aI (a:Bytes):aE 44 [.s a] (.b (aa a)):=by
 rw[uR];refine eW call44 func44 ?_;repeat' first|simp only[go_sem,seval]|refine oE ?_|apply xX<;>intro hc
 all_goals simp_all
 all_goals first|omega|(cases a<;>simp_all)
theorem GV (l:Bytes) {i:Nat} (hi:i<l.length) (h:l.getD i 0=0):fB (l.drop i)=fB (l.drop (i+1)):=by
 rw[jt hi,fB,ah (by rw[<-h,ca,bZ hi];rfl)]
theorem GW (l:Bytes) {i:Nat} (hi:i<l.length) (h:l.getD i 0≠0):fB (l.drop i)=l.drop i:=by
 rw[jt hi,fB,af (by rw[ca,bZ hi]at h;exact h)]
theorem pR (l:Bytes) (hl:l.length<4611686018427387904):aE 155 [.sl (l.map u8)] (.s (fB l)):=by
 refine eW call155 func155 ?_;simp only[go_sem,seval];refine ak (α:=Nat) (fun i=>l.length-i) (fun i=>⟨[(0, .v (.sl (l.map u8))),(3, .v (.i .i64 i))],[],_⟩) (fun i=>i<=l.length/\fB (l.drop i)=fB l) 0 (fun _=>aD _) ⟨aR _,rfl⟩ ?_ ?_
 ·exact lE
 ·rintro i ⟨hi,hx⟩ R hR
  by_cases hlt:i<l.length
  ·have e1:=PQ hlt
   by_cases h0:l.getD i 0=0
   ·have e2: ∀ _:True,(((l.getD i 0).toNat:Int)==0)=true:=fun _=>by rw[h0];rfl
    refine eC (aN @e1 (e2 oT)) ?_;refine hR (i+1) ⟨oO,by rw[<-hx,GV l hlt h0]⟩ oO _ ?_
    exact lE
   ·have e2: ∀ _:True,(((l.getD i 0).toNat:Int)==0)=false:=fun _=>by
     rw[ey];intro e;exact h0 (u8z e)
    rw[<-hx,GW l hlt h0];refine eC (aN @e1 (e2 oT)) ?_;refine⟨⟨oO,fun x hx=>xF hx⟩,fun y hy=>uk (oU hy),?_⟩
    rw[<-td,xC]
  ·obtain rfl:i=l.length:=oO;rw[<-hx];refine vP ?_;refine⟨⟨oO,fun x hx=>xF hx⟩,fun y hy=>uk (oU hy),?_⟩
   rw[<-td,xC,dn];rfl
theorem jS (n:Nat) (hn:n<18446744073709551616):aE 68 [.i .u64 n] (.s (bR n)):=by
 refine eW call68 func68 ?_;refine qY ?_;refine ak (α:=Nat) (fun i=>8-i) (fun i=>⟨[(0, .v (.i .u64 (n/256^i:Nat))),(3, .rs 1001 0 0 8 1),(4, .v (.i .i64 (7-(i:Int))))],[(1001,⟨0,aJ (List.replicate (8-i) 0++be i n),false,none⟩)],_⟩) (fun i=>i<=8) 0 (fun _=>aD _) (aR _) ?_ ?_
 ·(refine AS.Le.of (by first|decide|omega) ?_ ?_<;>simp[dA,dz,aS,aB,AV.bd,AV.bd.bdL,u8,aq,au,aA])
  all_goals rfl
 ·intro i hi R hR;have hl:(List.replicate (8-i) (0:UInt8)++be i n).length=8:=by simp[cH];omega
  have hle:n/256^i<=n:=eT _ _
  by_cases hlt:i<8
  ·have e2: ∀ _:True,((7:Int)-i).toNat=8-1-i:=fun _=>oO
   have e3: ∀ _:True,n/256^i/256=n/256^(i+1):=fun _=>by rw[eL,<-Nat.pow_succ]
   have hle2:n/256^(i+1)<=n:=eT _ _;have e4: ∀ _:True,IntKind.u64.wrap ((n/256^(i+1):Nat):Int)=((n/256^(i+1):Nat):Int):=fun _=>by
    generalize n/256^(i+1)=z at hle2⊢;exact IntWalk.u64_in _ oO
   refine eC (aN @hl (aN (e3 oT) (e4 oT))) ?_;refine hR (i+1) oO oO _ ?_;rw[e2 oT,ss (c:=UInt8.ofNat (n/256^i)) oO (by rw[kA,ig,ig,ew]),ia hlt]
   (refine AS.Le.of (by first|decide|omega) ?_ ?_<;>simp[dA,dz,aS,aB,AV.bd,AV.bd.bdL,u8,aq,au,aA])
   all_goals first|omega|rfl|skip
  ·obtain rfl:i=8:=oO;have:=pR (be 8 n) (by rw[cH];decide)
   have hl:(be 8 n).length=8:=cH 8 n;repeat' first|simp only[go_sem,seval,hl]|(refine gZ this rfl rfl hl.symm ?_)|refine oE ?_|apply xX<;>intro hc
   rw[js oO]
theorem sQ (a:Bytes) (hl:a.length<=8):aE 360 [.s a] (.i .u64 (num a)):=by
 refine eW call360 func360 ?_;refine qY ?_;refine ak (α:=Nat) (fun i=>a.length-i) (fun i=>⟨[(0, .v (.s a)),(3, .v (.i .u64 (num (a.take i)))),(4, .v (.i .i64 i))],[],_⟩) (fun i=>i<=a.length) 0 (fun _=>aD _) (aR _) ?_ ?_
 ·(refine AS.Le.of (by first|decide|omega) ?_ ?_<;>simp[dA,dz,aS,aB,AV.bd,AV.bd.bdL,u8,aq,au,aA])
  all_goals rfl
 ·intro i hi R hR
  by_cases hlt:i<a.length
  ·have h1:=kx hlt;have h2:=ct (a.take (i+1));have h3:(256:Nat)^(a.take (i+1)).length<=256^8:=cM oC (by simp;omega)
   refine vP ?_;refine hR (i+1) oO oO _ ?_;rw[h1]
   (refine AS.Le.of (by first|decide|omega) ?_ ?_<;>simp[dA,dz,aS,aB,AV.bd,AV.bd.bdL,u8,aq,au,aA])
   all_goals first|omega|rfl|skip
  ·obtain rfl:i=a.length:=oO;rw[cg];exact z0
theorem fZ {a b:Bytes} (ha:Canon a) (hb:Canon b) (la:a.length<4611686018427387904) (lb:b.length<4611686018427387904):aE 111 [.s a, .s b] (E (aZ (num a) (num b))):=by
 by_cases h1:a.length<b.length
 ·have:=ix (a:=a) hb h1;have e:aZ (num a) (num b)= -1:=by simp[aZ,this]
  rw[e];refine eW call111 func111 ?_;exact z0
 by_cases h2:b.length<a.length
 ·have:=ix (a:=b) ha h2;have e:aZ (num a) (num b)=1:=by unfold aZ;rw[af oO,ah this]
  rw[e];refine eW call111 func111 ?_;exact z0
 have hl:a.length=b.length:=oO;rw[<-jL hl];refine eW call111 func111 ?_;refine qY ?_;refine ak (α:=Nat) (fun i=>a.length-i) (fun i=>⟨[(0, .v (.s a)),(1, .v (.s b)),(5, .v (.i .i64 i))],[],_⟩) (fun i=>i<=a.length/\Lib.compareBytes (a.drop i) (b.drop i)=Lib.compareBytes a b) 0 (fun _=>aD _) ⟨aR _,rfl⟩ ?_ ?_
 ·exact lE
 ·rintro i ⟨hi,hx⟩ R hR
  by_cases hlt:i<a.length
  ·have d1:a.drop i=a.getD i 0::a.drop (i+1):=by rw[jt hlt,ca,bZ hlt];rfl
   have hltb:i<b.length:=oO;have d2:b.drop i=b.getD i 0::b.drop (i+1):=by rw[jt hltb,ca,bZ hltb];rfl
   have hgo:=hR (i+1);rw[<-hx]at hgo⊢;rw[d1,d2]at hgo⊢;simp only[Lib.compareBytes]at hgo⊢;clear d1 d2 hx hR;have e1:a.getD i 0<b.getD i 0↔(a.getD i 0).toNat<(b.getD i 0).toNat:=wL;have e2:b.getD i 0<a.getD i 0↔(b.getD i 0).toNat<(a.getD i 0).toNat:=wL;simp only[e1,e2]at hgo⊢;obtain⟨x,hx⟩: ∃x,x=a.getD i 0:=⟨_,rfl⟩;obtain⟨y,hy⟩: ∃y,y=b.getD i 0:=⟨_,rfl⟩;rw[<-hx,<-hy]at hgo⊢;clear e1 e2;repeat' first|simp only[go_sem,seval,<-hx,<-hy]|refine oE ?_|apply xX<;>intro hc
   ·refine hgo ⟨oO,?_⟩ oO _ ?_
    ·rw[af oO,af oO]
    ·exact lE
   ·rw[ah oO]
   ·rw[af oO,ah oO]
  ·obtain rfl:i=a.length:=oO;refine vP ?_;rw[<-hx,dn,hl,dn];rfl
theorem jq (a b:Bytes):aE 46 [.s a, .s b] (E (if aa a&&aa b then aZ (num a) (num b)else 0)):=by
 by_cases h:aa a=true/\aa b=true
 case neg=>
  refine eW call46 func46 ?_;repeat' first|simp only[go_sem,seval]|refine cP (aI _) ?_|refine oE ?_|apply xX<;>intro hc
  all_goals simp_all
 have la:=dD h.1;have lb:=dD h.2;have ho:=fZ (bG h.1) (bG h.2) oO oO;refine eW call46 func46 ?_;repeat' first|simp only[go_sem,seval]|refine cP (aI _) ?_|refine cP ho ?_|refine oE ?_|apply xX<;>intro hc
 all_goals simp_all
theorem rH (a:Bytes) (i:Nat) (ha:a.length<4611686018427387904):aE 273 [.s a,E i] (E ((num a/256^i%256:Nat):Int)):=by
 refine eW call273 func273 ?_;repeat' first|simp only[go_sem,seval]|refine oE ?_|apply xX<;>intro hc
 ·rw[rE a oO];rfl
 ·have h:=ux a (i:=i) oO;rw[<-h,show((a.length:Int)-1-(i:Int)).toNat=a.length-1-i by omega]
  have:=(a.getD (a.length-1-i) 0).toNat_lt;rw[IntWalk.i64_in _ oO]
theorem EG (a b:Bytes) (la:a.length<1099511627776) (lb:b.length<1099511627776):aE 142 [.s a, .s b] (.s (bR (num a+num b))):=by
 have hmax:(if(b.length:Int)>(a.length:Int)then(b.length:Int)else(a.length:Int))=((max a.length b.length:Nat):Int):=by
  split<;>omega
 obtain⟨n,hn⟩: ∃n,n=max a.length b.length+1:=⟨_,rfl⟩;have hn2:((max a.length b.length:Nat):Int)+1=(n:Int):=oO;refine eW call142 func142 ?_;refine dY (aN @hmax (aN @hn2 @nr)) ?_;refine ak (α:=Nat) (fun i=>n-i) (fun i=>⟨[(0, .v (.s a)),(1, .v (.s b)),(5, .v (.i .i64 n)),(6, .rs 1009 0 0 n 1),(7, .v (.i .i64 (carry (num a) (num b) (256^i)))),(8, .v (.i .i64 i))],[(1009,⟨0,aJ (List.replicate (n-i) 0++be i (num a+num b)),false,none⟩)],_⟩) (fun i=>i<=n) 0 (fun _=>aD _) (aR _) ?_ ?_
 ·(refine AS.Le.of (by first|decide|omega) ?_ ?_<;>simp[dA,dz,aS,aB,AV.bd,AV.bd.bdL,u8,aq,au,aA])
  ·simp[carry,lA]
  ·simp[be]
 ·intro i hi R hR;have hl:=oh n i (num a+num b) hi;have hp:=iO i;have hc1:=DF (num a) (num b) hp
  by_cases hlt:i<n
  ·have e0: ∀ _:True,((num a/256^i%256:Nat):Int)+((num b/256^i%256:Nat):Int)+((carry (num a) (num b) (256^i):Nat):Int)=((carry (num a) (num b) (256^i)+(num a/256^i%256+num b/256^i%256):Nat):Int):=fun _=>oO
   repeat' first|simp only[go_sem,seval,hl,e0 oT]|refine cP (rH a i oO) ?_|refine cP (rH b i oO) ?_|refine oE ?_|apply xX<;>intro hc
   refine hR (i+1) oO oO _ ?_;have e2:((n:Int)-1-i).toNat=n-1-i:=oO;rw[e2,ss (c:=UInt8.ofNat ((num a+num b)/256^i)) oO (by rw[kA,<-xD _ _ hp,ig,ig,ew]),ia hlt,xE _ _ hp,<-Nat.pow_succ]
   (refine AS.Le.of (by first|decide|omega) ?_ ?_<;>simp[dA,dz,aS,aB,AV.bd,AV.bd.bdL,u8,aq,au,aA])
   all_goals first|omega|rfl|skip
  ·obtain rfl:i=n:=oO;have:=pR (be i (num a+num b)) (by rw[cH];omega)
   have hl:(be i (num a+num b)).length=i:=cH _ _;repeat' first|simp only[go_sem,seval,hl,gS,List.replicate_zero]|(refine gZ this rfl rfl hl.symm ?_)|refine oE ?_|apply xX<;>intro hc
   have h1:num a+num b<256^i:=by
    have g1:=ct a;have g2:=ct b;have p1:256^a.length<=256^(i-1):=cM oC oO;have p2:256^b.length<=256^(i-1):=cM oC oO;have p3:256^i=256^(i-1)*256:=by rw[<-Nat.pow_succ];congr 1;omega
    omega
   rw[js h1]
theorem lL (a b:Bytes) (la:a.length<1099511627776) (lb:b.length<1099511627776) (h:num b<=num a):aE 230 [.s a, .s b] (.s (bR (num a-num b))):=by
 obtain⟨n,hn⟩: ∃n,n=a.length:=⟨_,rfl⟩;refine eW call230 func230 ?_;simp only[go_sem,seval,<-hn];repeat' first|simp only[go_sem,seval,<-hn,nr]|refine oE ?_|apply xX<;>intro hc
 refine ak (α:=Nat) (fun i=>n-i) (fun i=>⟨[(0, .v (.s a)),(1, .v (.s b)),(5, .v (.i .i64 n)),(6, .rs 1005 0 0 n 1),(7, .v (.i .i64 (borrow (num a) (num b) (256^i)))),(8, .v (.i .i64 i))],[(1005,⟨0,aJ (List.replicate (n-i) 0++be i (num a-num b)),false,none⟩)],_⟩) (fun i=>i<=n) 0 (fun _=>aD _) (aR _) ?_ ?_
 ·(refine AS.Le.of (by first|decide|omega) ?_ ?_<;>simp[dA,dz,aS,aB,AV.bd,AV.bd.bdL,u8,aq,au,aA])
  ·simp[borrow,lA]
  ·simp[be]
 ·intro i hi R hR;have hl:=oh n i (num a-num b) hi;have hp:=iO i;have hc1:=Am (num a) (num b) (256^i);have hb1:=uZ (num a) (num b) hp;have hb2:=uY (num a) (num b) hp h;have e2:((n:Int)-1-i).toNat=n-1-i:=oO
  by_cases hlt:i<n
  ·repeat' first|simp only[go_sem,seval,hl]|refine cP (rH a i oO) ?_|refine cP (rH b i oO) ?_|refine oE ?_|apply xX<;>intro hc
   ·refine hR (i+1) oO oO _ ?_;rw[e2,ss (c:=UInt8.ofNat ((num a-num b)/256^i)) oO (by rw[VU,ig,<-hb2 _ rfl];omega),ia hlt]
    (refine AS.Le.of (by first|decide|omega) ?_ ?_<;>simp[dA,dz,aS,aB,AV.bd,AV.bd.bdL,u8,aq,au,aA])
    ·rw[Nat.pow_succ,hb1,ah hc];rfl
    ·rfl
   ·refine hR (i+1) oO oO _ ?_;rw[e2,ss (c:=UInt8.ofNat ((num a-num b)/256^i)) oO (by rw[VU,ig,<-hb2 _ rfl]),ia hlt]
    (refine AS.Le.of (by first|decide|omega) ?_ ?_<;>simp[dA,dz,aS,aB,AV.bd,AV.bd.bdL,u8,aq,au,aA])
    ·rw[Nat.pow_succ,hb1,af hc];rfl
    ·rfl
  ·obtain rfl:i=n:=oO;have:=pR (be i (num a-num b)) (by rw[cH];omega)
   have hl:(be i (num a-num b)).length=i:=cH _ _;repeat' first|simp only[go_sem,seval,hl,gS,List.replicate_zero]|(refine gZ this rfl rfl hl.symm ?_)|refine oE ?_|apply xX<;>intro hc
   have h1:num a-num b<256^i:=by have:=ct a;rw[hn];omega
   rw[js h1]
end Go.Proofs.Tryz
namespace Go.Proofs.Tryz
open Go Go.Dom
theorem qm (a b:Bytes) (la:a.length<1048576) (lb:b.length<1048576):aE 359 [.s a, .s b] (.s (bR (num a*num b))):=by
 obtain⟨n,hn⟩: ∃n,n=a.length+b.length:=⟨_,rfl⟩;have hn':((a.length:Int)+(b.length:Int))=(n:Int):=oO;have hmul:num a*num b<256^n:=by rw[hn,cY];exact fE (ct a) (ct b)
 by_cases h8:n<=8
 ·have hu1:=sQ a oO;have hu2:=sQ b oO;have hp:num a*num b<(2^64):=b9 hmul (cM oC h8);have ho:=jS (num a*num b) hp;have hw: ∀ _:True,IntKind.u64.wrap ((num a:Int)*(num b:Int))=((num a*num b:Nat):Int):=fun _=>by
   rw[<-Int.natCast_mul,IntWalk.u64_in _ oO]
  clear hmul;refine eW call359 func359 ?_;exact zB (aN @hn' (hw oT)) @hu1 @hu2 @ho oT
 have hcz: ∀m:Nat,(List.replicate m [AV.v (PV.i IntKind.i64 0)]).flatten=aF .i64 (List.replicate m 0):=by
  intro m
  induction m with
  |zero=>rfl
  |succ m ih=>rw[List.replicate_succ,List.flatten_cons,ih,List.replicate_succ];rfl
 have hw1: ∀ _:True,((n:Int)+1)=((n+1:Nat):Int):=fun _=>rfl
 refine eW call359 func359 ?_;refine dY (aN @hn' (aN @nr (aN (hw1 oT) @hcz))) ?_;refine ak (α:=Nat×List Nat) (fun x=>a.length-x.1) (fun x=>⟨[(0, .v (.s a)),(1, .v (.s b)),(5,E' n),(6, .rs 1015 0 0 (n+1) 1),(7, .v (.i .i64 x.1))],[(1015,⟨0,aF .i64 x.2,false,none⟩)],_⟩) (fun x=>x.1<=a.length/\vz (n+1) (num a) (num b) x.1 0 x.2) (0,List.replicate (n+1) 0) (fun _=>aD _) ⟨aR _, .start _ _ _⟩ ?_ ?_
 ·(refine AS.Le.of (by first|decide|omega) ?_ ?_<;>simp[dA,dz,aS,aB,AV.bd,AV.bd.bdL,u8,aq,au,aA])
  all_goals skip
 ·rintro⟨i,l⟩ ⟨hi,hl⟩ R hR;simp only at hi hl;have l1:(aF .i64 l).length=n+1:=by rw[br,hl.len]
  by_cases hlt:i<a.length
  ·refine dY @l1 ?_;refine ak (α:=Nat×List Nat) (fun x=>b.length-x.1) (fun x=>⟨[(0, .v (.s a)),(1, .v (.s b)),(5,E' n),(6, .rs 1015 0 0 (n+1) 1),(7,E' i),(8,E' x.1)],[(1015,⟨0,aF .i64 x.2,false,none⟩)],_⟩) (fun x=>x.1<=b.length/\vz (n+1) (num a) (num b) i x.1 x.2) (0,l) (fun _=>aD _) ⟨aR _,hl⟩ ?_ ?_
   ·exact lE
   ·rintro⟨k,m⟩ ⟨hk,hm⟩ R' hR';simp only at hk hm;have m1:(aF .i64 m).length=n+1:=by rw[br,hm.len]
    by_cases hklt:k<b.length
    ·obtain⟨x,hx⟩: ∃x,x=num a/256^i%256:=⟨_,rfl⟩;obtain⟨y,hy⟩: ∃y,y=num b/256^k%256:=⟨_,rfl⟩;have hst:=hm.step oO;rw[<-hx,<-hy]at hst;have hxy:x*y<=65025:=j9 (by omega:x<=255) (by omega:y<=255)
     have hc:=hm.hi (i+k) (aD _);have g1: ∀ _:True,(aF .i64 m).getD ((i:Int)+(k:Int)).toNat .u= .v (.i .i64 (m.getD (i+k) 0:Nat)):=fun _=>by
      rw[show((i:Int)+(k:Int)).toNat=i+k by omega,du (by rw[hm.len];omega)]
     have g2: ∀ _:True,IntKind.i64.wrap ((x:Int)*(y:Int))=((x*y:Nat):Int):=fun _=>by
      rw[<-Int.natCast_mul,IntWalk.i64_in _ oO]
     have g3: ∀ _:True,IntKind.i64.wrap (((m.getD (i+k) 0:Nat):Int)+((x*y:Nat):Int))=((m.getD (i+k) 0+x*y:Nat):Int):=fun _=>by
      rw[<-Int.natCast_add,IntWalk.i64_in _ oO]
     have hd1:=rH a i oO;have hd:=rH b k oO;rw[<-hy]at hd;rw[<-hx]at hd1;clear hy hxy hx;refine tO (aN @m1 (aN (g1 oT) (aN (g2 oT) (g3 oT)))) @hd1 @hd ?_;refine hR' (k+1,m.set (i+k) (m.getD (i+k) 0+x*y)) ⟨by show k+1<= _;omega,hst⟩ (by show b.length-(k+1)<b.length-k;omega) _ ?_
     rw[show((i:Int)+(k:Int)).toNat=i+k by omega,dT (by rw[hm.len];omega) rfl]
     exact lE
    ·obtain rfl:k=b.length:=oO;refine vP ?_;refine hR (i+1,m) ⟨by show i+1<= _;omega,hm.row (ct b)⟩ (by show a.length-(i+1)<a.length-i;omega) _ ?_
     exact lE
  ·obtain rfl:i=a.length:=oO;refine eC (aN @l1 @nr) ?_;have hv:=hl.v;have ha:=ct a;rw[bw ha]at hv;simp only[Nat.pow_zero,lA,Nat.mul_zero,th,Nat.add_zero]at hv;obtain⟨T,hT⟩: ∃T,T=num a*num b:=⟨_,rfl⟩;rw[<-hT]at hv;have hTl:T<256^n:=by rw[hT];exact hmul
   rw[<-hT];refine ak (α:=Nat) (fun i=>n-i) (fun i=>⟨[(5,E' n),(6, .rs 1015 0 0 (n+1) 1),(9, .rs 1023 0 0 n 1),(10,E' (le (l.take i)/256^i)),(11,E' i)],[(1015,⟨0,aF .i64 l,false,none⟩),(1023,⟨0,aJ (List.replicate (n-i) 0++be i T),false,none⟩)],_⟩) (fun i=>i<=n) 0 (fun _=>aD _) (aR _) ?_ ?_
   ·(refine AS.Le.of (by first|decide|omega) ?_ ?_<;>simp[dA,dz,aS,aB,AV.bd,AV.bd.bdL,u8,aq,au,aA])
    all_goals first|rfl|simp[le,be]
   ·intro i hi R hR;have hb:=oh n i T hi
    by_cases hlt:i<n
    ·obtain⟨e1,e2⟩:=sA (l:=l) (i:=i) (by rw[hl.len];omega) hv.symm
     have hm:=hl.lo i;have hc:=hl.lo.carry i;have g1: ∀ _:True,(aF .i64 l).getD i .u= .v (.i .i64 (l.getD i 0:Nat)):=fun _=>du (by rw[hl.len];omega)
     have g2: ∀ _:True,IntKind.i64.wrap (((l.getD i 0:Nat):Int)+((le (l.take i)/256^i:Nat):Int))=((le (l.take i)/256^i+l.getD i 0:Nat):Int):=fun _=>by
      have hs:le (l.take i)/256^i+l.getD i 0<=65025*(a.length+1)+65025*(a.length+1):=Nat.add_le_add hc hm;rw[<-Int.natCast_add,gn];generalize le (l.take i)/256^i+l.getD i 0=z at hs⊢;rw[IntWalk.i64_in _ oO]
     clear e1 e2 hm hc;refine eC (aN @l1 (aN (g1 oT) (aN (g2 oT) @hb))) ?_;obtain⟨e1,e2⟩:=sA (l:=l) (i:=i) (by rw[hl.len];omega) hv.symm
     have hs:le (l.take (i+1))/256^(i+1)<=65025*(a.length+1):=hl.lo.carry (i+1);have hw:IntKind.i64.wrap ((le (l.take (i+1))/256^(i+1):Nat):Int)=((le (l.take (i+1))/256^(i+1):Nat):Int):=by
      generalize le (l.take (i+1))/256^(i+1)=z at hs⊢;rw[IntWalk.i64_in _ oO]
     refine hR (i+1) oO oO _ ?_;rw[e2,hw,show((n:Int)-1-i).toNat=n-1-i by omega,ss (c:=UInt8.ofNat (T/256^i)) oO (by rw[kA,ig,ig];exact congrArg _ oO),ia hlt]
     (refine AS.Le.of (by first|decide|omega) ?_ ?_<;>simp[dA,dz,aS,aB,AV.bd,AV.bd.bdL,u8,aq,au,aA])
     all_goals rfl
    ·obtain rfl:i=n:=oO;have:=pR (be i T) (by rw[cH];omega)
     have hl':(be i T).length=i:=cH _ _;repeat' first|simp only[go_sem,seval,hl',gS,List.replicate_zero]|(refine gZ this rfl rfl hl'.symm ?_)|refine oE ?_|apply xX<;>intro hc
     rw[js hTl]
