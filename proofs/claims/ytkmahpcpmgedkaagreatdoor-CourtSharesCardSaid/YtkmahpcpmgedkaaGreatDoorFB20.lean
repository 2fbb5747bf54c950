/- Part of the proof. -/
import Derived.Test.YtkmahpcpmgedkaaGreatDoorFB19
import Derived.RangeFuncKeeps
import Derived.RangeFuncLeaves
import Derived.Shelf.Abstract
import Derived.WalkKit
import Derived.OwnWalkIn
import Derived.TacticsInMore
import Derived.LoopNIn
import Derived.LoopIn
set_option linter.all false
set_option maxHeartbeats 4000000
set_option maxRecDepth 100000
namespace Go.Proofs.Tryz
open Go Go.Dom
theorem lJ (n:Nat) (hn:n<18446744073709551616):aD 63 [.i .u64 n] (.s (aX n)):=by
 refine eW call63 func63 ?_;simp only[go_sem,seval];refine af (α:=Nat) (fun i=>8-i) (fun i=>⟨[(0, .v (.i .u64 n)),(3, .p 1001 0 0),(5, .v (.i .i64 i))],[(1001,⟨0,aG (List.replicate (8-i) 0++be i n),false,some 207⟩)],1003⟩) (fun i=>i<=8) 0 (fun _=>ay _) (aJ _) ?_ ?_
 ·(refine AS.Le.of (by first|decide|omega) ?_ ?_<;>simp[dy,dx,aO,az,AV.bd,AV.bd.bdL,u8,ar,ax,aA]);rfl
 ·intro i hi R hR;have hl:(List.replicate (8-i) (0:UInt8)++be i n).length=8:=by simp[cv];omega
  by_cases hlt:i<8
  ·refine dH @hl ?_;refine hR (i+1) oO oO _ ?_;have e1:(8*(i:Int)).toNat=8*i:=oO;have e2:((7:Int)-i).toNat=8-1-i:=oO;have e3:IntKind.u8.wrap ((n/2^(8*i):Nat):Int)=((UInt8.ofNat (n/256^i)).toNat:Int):=by
    rw[lu,ko]
   rw[e1,e2,ah oO,sV oO e3,ir hlt]
   (refine AS.Le.of (by first|decide|omega) ?_ ?_<;>simp[dy,dx,aO,az,AV.bd,AV.bd.bdL,u8,ar,ax,aA]);rfl
  ·obtain rfl:i=8:=oO;have:=kS (be 8 n);have hl:(be 8 n).length=8:=cv 8 n;repeat' first|simp only[go_sem,seval,hl]|(refine im this rfl rfl hl.symm ?_)|refine oE ?_|apply xX<;>intro hc
   rw[jZ oO]
def cW:Nat:=256^128
theorem lf {n:Nat}:(aX n).length<=128↔n<cW:=oV
def Bf (a b:Bytes):Bytes×Int:=if aa a&&aa b then(if num a+num b<cW then(aX (num a+num b),0)else([],5))else([],3)
theorem nY (n:Nat):(List.replicate n [AV.v (PV.i IntKind.u8 0)]).flatten=aG (List.replicate n 0):=by
 induction n with
 |zero=>rfl
 |succ n ih=>simp[List.replicate_succ,aG,u8]at ih⊢
theorem oY (n i x:Nat) (h:i<=n):(List.replicate (n-i) (0:UInt8)++be i x).length=n:=by simp[cv];omega
theorem TL (a b:Bytes):aD 123 [.s a, .s b] (.tup [.s (Bf a b).1,E (Bf a b).2]):=by
 have hmax:(if(b.length:Int)>(a.length:Int)then(b.length:Int)else(a.length:Int))=((max a.length b.length:Nat):Int):=by
  split<;>omega
 by_cases hv:aa a=true/\aa b=true
 case neg=>
  refine eW call123 func123 ?_;repeat' first|simp only[go_sem,seval]|refine cP (aS _) ?_|refine oE ?_|apply xX<;>intro hc
  all_goals simp_all[Bf]
 obtain⟨hva,hvb⟩:=hv;have la:=cT hva;have lb:=cT hvb;obtain⟨n,hn⟩: ∃n,n=max a.length b.length+1:=⟨_,rfl⟩;have hn2:((max a.length b.length:Nat):Int)+1=(n:Int):=oO;refine eW call123 func123 ?_;repeat' first|simp only[go_sem,seval,hmax,hn2,nY]|refine cP (aS _) ?_|refine oE ?_|apply xX<;>intro hc
 refine af (α:=Nat) (fun i=>n-i) (fun i=>⟨[(0, .v (.s a)),(1, .v (.s b)),(6, .v (.i .i64 n)),(7, .rs 1018 0 0 n 1),(8, .v (.i .i64 (carry (num a) (num b) (256^i)))),(26, .v (.i .i64 n)),(27, .v (.i .i64 i))],[(1018,⟨0,aG (List.replicate (n-i) 0++be i (num a+num b)),false,none⟩)],1023⟩) (fun i=>i<=n) 0 (fun _=>ay _) (aJ _) ?_ ?_
 ·(refine AS.Le.of (by first|decide|omega) ?_ ?_<;>simp[dy,dx,aO,az,AV.bd,AV.bd.bdL,u8,ar,ax,aA])
  ·simp[carry,mB]
  ·simp[be]
 ·intro i hi R hR;have hl:=oY n i (num a+num b) hi;have hp:=jq i;have hc1:=EA (num a) (num b) hp
  by_cases hlt:i<n
  ·repeat' first|simp only[go_sem,seval,hl]|refine cP (lQ a i oO) ?_|refine cP (lQ b i oO) ?_|refine oE ?_|apply xX<;>intro hc
   refine hR (i+1) oO oO _ ?_;have e2:((n:Int)-1-i).toNat=n-1-i:=oO;have e0:((carry (num a) (num b) (256^i):Nat):Int)+(((num a/256^i%256:Nat):Int)+((num b/256^i%256:Nat):Int))=((carry (num a) (num b) (256^i)+(num a/256^i%256+num b/256^i%256):Nat):Int):=oO;rw[e0,e2,sV oO ((lu _).trans (by rw[yW _ _ hp])),ir hlt,show(256:Int)=((256:Nat):Int)from rfl,CS,yX _ _ hp,<-Nat.pow_succ]
   (refine AS.Le.of (by first|decide|omega) ?_ ?_<;>simp[dy,dx,aO,az,AV.bd,AV.bd.bdL,u8,ar,ax,aA]);rfl
  ·obtain rfl:i=n:=oO;have:=kS (be i (num a+num b));have hl:(be i (num a+num b)).length=i:=cv _ _;repeat' first|simp only[go_sem,seval,hl,fA,List.replicate_zero]|(refine im this rfl rfl hl.symm ?_)|refine cP (rY _) ?_|refine oE ?_|apply xX<;>intro hc
   have h1:num a+num b<256^i:=by
    have g1:=cL a;have g2:=cL b;have p1:256^a.length<=256^(i-1):=dF oC oO;have p2:256^b.length<=256^(i-1):=dF oC oO;have p3:256^i=256^(i-1)*256:=by rw[<-Nat.pow_succ];congr 1;omega
    omega
   rw[jZ h1];simp only[lf,Bf,hva,hvb,dE,au]
   split<;>simp
theorem Rl (a b:Bytes) (ha:a.length<=128) (hb:b.length<=128) (h:num b<=num a):aD 233 [.s a, .s b] (.s (aX (num a-num b))):=by
 obtain⟨n,hn⟩: ∃n,n=a.length:=⟨_,rfl⟩;refine eW call233 func233 ?_;simp only[go_sem,seval,<-hn];repeat' first|simp only[go_sem,seval,<-hn,nY]|refine oE ?_|apply xX<;>intro hc
 refine af (α:=Nat) (fun i=>n-i) (fun i=>⟨[(0, .v (.s a)),(1, .v (.s b)),(5, .v (.i .i64 n)),(6, .rs 1005 0 0 n 1),(7, .v (.i .i64 (borrow (num a) (num b) (256^i)))),(14, .v (.i .i64 n)),(15, .v (.i .i64 i))],[(1005,⟨0,aG (List.replicate (n-i) 0++be i (num a-num b)),false,none⟩)],1010⟩) (fun i=>i<=n) 0 (fun _=>ay _) (aJ _) ?_ ?_
 ·(refine AS.Le.of (by first|decide|omega) ?_ ?_<;>simp[dy,dx,aO,az,AV.bd,AV.bd.bdL,u8,ar,ax,aA])
  ·simp[borrow,mB]
  ·simp[be]
 ·intro i hi R hR;have hl:=oY n i (num a-num b) hi;have hp:=jq i;have hc1:=BH (num a) (num b) (256^i);have hb1:=wL (num a) (num b) hp;have hb2:=wK (num a) (num b) hp h;have e2:((n:Int)-1-i).toNat=n-1-i:=oO
  by_cases hlt:i<n
  ·repeat' first|simp only[go_sem,seval,hl]|refine cP (lQ a i oO) ?_|refine cP (lQ b i oO) ?_|refine oE ?_|apply xX<;>intro hc
   ·refine hR (i+1) oO oO _ ?_;rw[e2,sV (c:=UInt8.ofNat ((num a-num b)/256^i)) oO (by rw[Wn,ix,<-hb2 _ rfl];omega),ir hlt]
    (refine AS.Le.of (by first|decide|omega) ?_ ?_<;>simp[dy,dx,aO,az,AV.bd,AV.bd.bdL,u8,ar,ax,aA])
    ·rw[Nat.pow_succ,hb1,ah hc];rfl
    ·rfl
   ·refine hR (i+1) oO oO _ ?_;rw[e2,sV (c:=UInt8.ofNat ((num a-num b)/256^i)) oO (by rw[Wn,ix,<-hb2 _ rfl]),ir hlt]
    (refine AS.Le.of (by first|decide|omega) ?_ ?_<;>simp[dy,dx,aO,az,AV.bd,AV.bd.bdL,u8,ar,ax,aA])
    ·rw[Nat.pow_succ,hb1,ae hc];rfl
    ·rfl
  ·obtain rfl:i=n:=oO;have:=kS (be i (num a-num b));have hl:(be i (num a-num b)).length=i:=cv _ _;repeat' first|simp only[go_sem,seval,hl,fA,List.replicate_zero]|(refine im this rfl rfl hl.symm ?_)|refine oE ?_|apply xX<;>intro hc
   have h1:num a-num b<256^i:=by have:=cL a;rw[hn];omega
   rw[jZ h1]
def wD (a b:Bytes):Bytes×Int:=if aa a&&aa b then(if num b<=num a then(aX (num a-num b),0)else([],2))else([],3)
theorem fP {a b:Nat}:ba a b<0↔a<b:=by unfold ba;split<;>(try split)<;>omega
theorem LQ (a b:Bytes):aD 121 [.s a, .s b] (.tup [.s (wD a b).1,E (wD a b).2]):=by
 by_cases hv:aa a=true/\aa b=true
 case neg=>
  refine eW call121 func121 ?_;repeat' first|simp only[go_sem,seval]|refine cP (aS _) ?_|refine oE ?_|apply xX<;>intro hc
  all_goals simp_all[wD]
 obtain⟨hva,hvb⟩:=hv;refine eW call121 func121 ?_;repeat' first|simp only[go_sem,seval]|refine cP (aS _) ?_|refine cP (oW (bL hva) (bL hvb)) ?_|(refine jb (Rl _ _ (cT hva) (cT hvb) (by rw[fP]at hc;omega)) rfl ?_)|refine oE ?_|apply xX<;>intro hc
 ·rw[fP]at hc;simp[wD,hva,hvb,show¬num b<=num a by omega]
 ·rw[fP]at hc;simp[wD,hva,hvb,show num b<=num a by omega]
end Go.Proofs.Tryz
namespace Go.Proofs.Tryz
open Go Go.Dom
theorem Wj {l:List Nat} {i:Nat} (h:i<l.length):(l.map fun n:Nat=>PV.i .u8 n).getD i .fn0= .i .u8 (l.getD i 0:Nat):=by
 simp[bu,h]
theorem rK (x:Nat) (h0:x≠0) (h:x<(2^64)):aD 237 [.i .u64 x] (E (Lib.ctz 64 x:Nat)):=by
 obtain⟨g1,g2⟩:=Lib.lowest_bit 64 x h0 h;obtain⟨g3,g4⟩:=Lib.deBruijn64_at _ g2;obtain⟨k,hk⟩: ∃k,k=Lib.ctz 64 x:=⟨_,rfl⟩;rw[<-hk]at g1 g2 g3 g4⊢;obtain⟨p,hp⟩: ∃p,p=2^k:=⟨_,rfl⟩;rw[<-hp]at g1 g3 g4;obtain⟨i,hi⟩: ∃i,i=p*285870213051353865%(2^64)/288230376151711744:=⟨_,rfl⟩;rw[<-hi]at g3 g4;have e1: ∀ _:True,IntKind.u64.wrap (0-(x:Int))=(((2^64)-x:Nat):Int):=fun _=>by rw[By];omega
 have e2: ∀ _:True,mU .u64 (x:Int) (((2^64)-x:Nat):Int)=((p:Nat):Int):=fun _=>by
  rw[Nh .u64 rfl h (by show(2^64)-x<(2^64);omega)];exact congrArg _ g1
 have e3: ∀ _:True,p*285870213051353865%(2^64)/288230376151711744=i:=fun _=>hi.symm
 have e4:=Wj (l:=Lib.deBruijn64tab) (i:=i) (by exact g3)
 rw[g4]at e4;have e5: ∀ _:True,([(.i .u8 0),(.i .u8 1),(.i .u8 56),(.i .u8 2),(.i .u8 57),(.i .u8 49),(.i .u8 28),(.i .u8 3),(.i .u8 61),(.i .u8 58),(.i .u8 42),(.i .u8 50),(.i .u8 38),(.i .u8 29),(.i .u8 17),(.i .u8 4),(.i .u8 62),(.i .u8 47),(.i .u8 59),(.i .u8 36),(.i .u8 45),(.i .u8 43),(.i .u8 51),(.i .u8 22),(.i .u8 53),(.i .u8 39),(.i .u8 33),(.i .u8 30),(.i .u8 24),(.i .u8 18),(.i .u8 12),(.i .u8 5),(.i .u8 63),(.i .u8 55),(.i .u8 48),(.i .u8 27),(.i .u8 60),(.i .u8 41),(.i .u8 37),(.i .u8 16),(.i .u8 46),(.i .u8 35),(.i .u8 44),(.i .u8 21),(.i .u8 52),(.i .u8 32),(.i .u8 23),(.i .u8 11),(.i .u8 54),(.i .u8 26),(.i .u8 40),(.i .u8 15),(.i .u8 34),(.i .u8 20),(.i .u8 31),(.i .u8 10),(.i .u8 25),(.i .u8 14),(.i .u8 19),(.i .u8 9),(.i .u8 13),(.i .u8 8),(.i .u8 7),(.i .u8 6)]:List PV).getD i .fn0= .i .u8 (k:Nat):=fun _=>e4
 clear g1 g4 hi hp e4;refine eW call237 func237 ?_;simp only[go_sem,seval,e1 oT,e2 oT,tG,e3 oT,e5 oT];repeat' first|simp only[go_sem,seval,e1 oT,e2 oT,tG,e3 oT,e5 oT]|refine oE ?_|apply xX<;>intro hc
 all_goals skip
end Go.Proofs.Tryz
namespace Go.Dom
variable {L a b i k:Nat}
def le:List Nat->Nat
 |[]=>0
 |x::r=>x+256*le r
theorem Nx: ∀(l:List Nat) (p v:Nat),p<l.length->le (l.set p (l.getD p 0+v))=le l+v*256^p
 |x::r,0,v,_=>by simp[le];omega
 |x::r,p+1,v,h=>by
  have:=Nx r p v (by simpa using h)
  simp only[List.set_cons_succ,le,eK,this,Nat.pow_succ,kp];have e:256*(v*256^p)=v*(256^p*256):=by rw[bO,cF]
  omega
theorem U6 (n:Nat):le (List.replicate n 0)=0:=by induction n<;>simp_all[List.replicate_succ,le]
theorem zJ: ∀(l:List Nat) (i:Nat),le l=le (l.take i)+256^i*le (l.drop i)
 |[],i=>by simp[le]
 |x::r,0=>by simp[le]
 |x::r,i+1=>by
  have:=zJ r i;simp only[List.take_succ_cons,List.drop_succ_cons,le,Nat.pow_succ];rw[this,kp,<-cF,bO 256 (256^i)];omega
theorem tD {l:List Nat} (h:i<l.length):le (l.take (i+1))=le (l.take i)+l.getD i 0*256^i:=by
 have h1:=zJ (l.take (i+1)) i;rw[List.take_take,pz (by omega)]at h1
 rw[h1];congr 1;have:(l.take (i+1)).drop i=[l.getD i 0]:=by
  rw[uE,show i+1-i=1 by omega,bu,bC h]
  rw[List.take_one,List.head?_drop,bC h];rfl
 rw[this];simp[le,bO]
theorem s8 {l:List Nat} {i T:Nat} (h:i<l.length) (hT:T=le l):(le (l.take i)/256^i+l.getD i 0)%256=T/256^i%256/\(le (l.take i)/256^i+l.getD i 0)/256=le (l.take (i+1))/256^(i+1):=by
 have h1:=tD h;have h2:=zJ l (i+1);have hp:=gR (n:=i) (show 0<256 by decide)
 have e1:le (l.take (i+1))/256^i=le (l.take i)/256^i+l.getD i 0:=by rw[h1,Nat.add_mul_div_right _ _ hp]
 rw[<-e1];constructor
 ·rw[hT,h2,Nat.pow_succ,cF,nQ _ _ hp];omega
 ·rw[Nat.pow_succ,eZ]
def Es (m:Nat) (l:List Nat):Prop:= ∀i,l.getD i 0<=m
theorem Es.rep (n m:Nat):Es m (List.replicate n 0):=fun i=>by
 rw[bu]
 by_cases h:i<n<;>simp[h]
theorem Es.le {m:Nat} {l:List Nat} (h:Es m l) (i:Nat):Dom.le (l.take i)<=m*256^i:=by
 induction i with
 |zero=>simp[Dom.le]
 |succ i ih=>
  by_cases hi:i<l.length
  ·rw[tD hi,Nat.pow_succ];have:=du (256^i) (h i);have e:m*(256^i*256)=m*256^i*256:=by rw[cF]
   omega
  ·rw[cb (by omega)]at ih⊢
   exact fZ ih (je _ (dF (by decide) (by omega)))
theorem Es.carry {m:Nat} {l:List Nat} (h:Es m l) (i:Nat):Dom.le (l.take i)/256^i<=m:=by
 have:=h.le i;exact Nat.div_le_of_le_mul (by rw[bO];exact this)
structure xc (L a b i k:Nat) (l:List Nat):Prop where
 len:l.length=L
 v:le l=a%256^i*b+a/256^i%256*(b%256^k)*256^i
 lo:Es (65025*(i+1)) l
 hi: ∀j,i+k<=j->l.getD j 0<=65025*i
theorem xc.start (L a b:Nat):xc L a b 0 0 (List.replicate L 0):=⟨x8,by rw[U6];simp[mB], .rep _ _,fun j _=>Es.rep L 0 j⟩
theorem xc.step {l:List Nat} (h:xc L a b i k l) (hp:i+k<L):xc L a b i (k+1) (l.set (i+k) (l.getD (i+k) 0+a/256^i%256*(b/256^k%256))):=by
 have hv:a/256^i%256*(b/256^k%256)<=65025:=j8 (by omega:a/256^i%256<=255) (by omega:b/256^k%256<=255)
 have hh:=h.hi (i+k) (ay _);refine⟨by simp[h.len],?_,fun j=> ?_,fun j hj=> ?_⟩
 ·rw[Nx _ _ _ (by rw[h.len];exact hp),h.v,ji]
  congr 1;have e:=pC (x:=b) (a:=256^k) (b:=256);rw[show 256^(k+1)=256^k*256 from Nat.pow_succ ..,e,cZ]
  generalize a/256^i%256=x;generalize b/256^k%256=y;generalize b%256^k=z;rw[kp,c9,cF x y,cF x (256^k*y),bO (256^i) (256^k),<-cF y,bO y (256^k)]
 ·rw[bu,nS];split
  ·split
   ·simp only[Option.getD_some];omega
   ·simp
  ·have:=h.lo j;rw[bu]at this;exact this
 ·rw[bu,DS (by omega),<-bu]
  exact h.hi j (by omega)
theorem xc.row {l:List Nat} (h:xc L a b i k l) (hk:b<256^k):xc L a b (i+1) 0 l:=by
 refine⟨h.len,?_,fun j=>by have:=h.lo j;omega,fun j _=>by have:=h.lo j;omega⟩
 rw[h.v,bY hk];have e:=pC (x:=a) (a:=256^i) (b:=256);rw[show 256^(i+1)=256^i*256 from Nat.pow_succ ..,e,c9]
 simp only[Nat.pow_zero,mB,Nat.mul_zero,pE,Nat.add_zero];congr 1;rw[bO (256^i),cF,cF,bO b]
end Go.Dom
namespace Go.Proofs.Tryz
open Go Go.Dom
variable {a:Bytes} {b n:Nat}
abbrev E' (n:Nat):AV:= .v (.i .i64 n)
theorem Ah (n nm:Nat) (a b:Bytes) (la:a.length<=128) (lb:b.length<=128) (el:Option TypeId) (zs:List Nat) (hz:zs=List.replicate 256 0):mw prog 444 nm [(n,⟨0,aC .i64 zs,false,el⟩)] [.v (.s a), .v (.s b), .p n 0 0] (.v (.s (aX (num a*num b)))) [(n,none)]:=by
 refine mw.w mixed call444 func444 rfl (nf.1 _ _ _ (by cbv)) (nf.2 _ _ (by cbv)) (obs:=[⟨0,aC .i64 zs,false,el⟩]) (args:=[.v (.s a), .v (.s b), .p 0 0 0]) (fs:=[some none]) (j:=none) (nw:=none) (v:= .v (.s (aX (num a*num b)))) (ns:=[n]) (obsA:=[⟨0,aC .i64 zs,false,el⟩]) rfl ?_ (by simp) (by simp) rfl (by simp[bz,aF.aY,FD]) (by simp[bz,AV.aY,dP]) (by simp[AV.aY]) (by simp[gY,outs])
 have r1:(aC .i64 zs).length=256:=by rw[bc,hz,x8]
 have r2:List.drop 256 (aC .i64 zs)=[]:=gU (by rw[r1];exact ay _)
 have r3:=r5 .i64 256;rw[<-hz]at r3;simp only[go_sem,seval,r1,r2,r3,-List.reduceReplicate];refine af (α:=Nat×List Nat) (fun x=>a.length-x.1) (fun x=>⟨[(0, .v (.s a)),(1, .v (.s b)),(2, .p 0 0 0),(18, .v (.i .i64 a.length)),(19, .v (.i .i64 x.1))],[(0,⟨0,aC .i64 x.2,false,el⟩)],_⟩) (fun x=>x.1<=a.length/\xc 256 (num a) (num b) x.1 0 x.2) (0,zs) (fun _=>ay _) ⟨aJ _,hz▸ .start _ _ _⟩ ?_ ?_
 ·(refine AS.Le.of (by first|decide|omega) ?_ ?_<;>simp[dy,dx,aO,az,AV.bd,AV.bd.bdL,u8,ar,ax,aA])
  all_goals skip
 ·rintro⟨i,l⟩ ⟨hi,hl⟩ R hR;simp only at hi hl;have l1:(aC .i64 l).length=256:=by rw[bc,hl.len]
  by_cases hlt:i<a.length
  ·repeat' first|simp only[go_sem,seval,l1]|refine cP (lQ a i oO) ?_|refine oE ?_|apply xX<;>intro hc
   refine af (α:=Nat×List Nat) (fun x=>b.length-x.1) (fun x=>⟨[(0, .v (.s a)),(1, .v (.s b)),(2, .p 0 0 0),(7,E' i),(8,E' (num a/256^i%256)),(18,E' a.length),(19,E' i),(26,E' b.length),(27,E' x.1)],[(0,⟨0,aC .i64 x.2,false,el⟩)],_⟩) (fun x=>x.1<=b.length/\xc 256 (num a) (num b) i x.1 x.2) (0,l) (fun _=>ay _) ⟨aJ _,hl⟩ ?_ ?_
   ·exact lE
   ·rintro⟨k,m⟩ ⟨hk,hm⟩ R' hR';simp only at hk hm;have m1:(aC .i64 m).length=256:=by rw[bc,hm.len]
    by_cases hklt:k<b.length
    ·obtain⟨x,hx⟩: ∃x,x=num a/256^i%256:=⟨_,rfl⟩;obtain⟨y,hy⟩: ∃y,y=num b/256^k%256:=⟨_,rfl⟩;have hst:=hm.step oO;rw[<-hx,<-hy]at hst;have hxy:x*y<=65025:=j8 (by omega:x<=255) (by omega:y<=255)
     have hc:=hm.hi (i+k) (ay _);have g1: ∀ _:True,(aC .i64 m).getD ((i:Int)+(k:Int)).toNat .u= .v (.i .i64 (m.getD (i+k) 0:Nat)):=fun _=>by
      rw[show((i:Int)+(k:Int)).toNat=i+k by omega,dA (by rw[hm.len];omega)]
     have g2: ∀ _:True,IntKind.i64.wrap ((x:Int)*(y:Int))=((x*y:Nat):Int):=fun _=>by
      rw[<-Int.natCast_mul,IntWalk.i64_in _ oO]
     have g3: ∀ _:True,IntKind.i64.wrap (((m.getD (i+k) 0:Nat):Int)+((x*y:Nat):Int))=((m.getD (i+k) 0+x*y:Nat):Int):=fun _=>by
      rw[<-Int.natCast_add,IntWalk.i64_in _ oO]
     have hd:=lQ b k oO;rw[<-hy]at hd;rw[<-hx];clear hy hxy;refine kz (aN @m1 (aN (g1 oT) (aN (g2 oT) (g3 oT)))) @hd ?_;refine hR' (k+1,m.set (i+k) (m.getD (i+k) 0+x*y)) ⟨by show k+1<= _;omega,hst⟩ (by show b.length-(k+1)<b.length-k;omega) _ ?_
     rw[show((i:Int)+(k:Int)).toNat=i+k by omega,eH (by rw[hm.len];omega) rfl]
     (refine AS.Le.of (by first|decide|omega) ?_ ?_<;>simp[dy,dx,aO,az,AV.bd,AV.bd.bdL,u8,ar,ax,aA])
     rw[hx];simp
    ·obtain rfl:k=b.length:=oO;refine xB ?_;refine hR (i+1,m) ⟨by show i+1<= _;omega,hm.row (cL b)⟩ (by show a.length-(i+1)<a.length-i;omega) _ ?_
     exact lE
  ·obtain rfl:i=a.length:=oO;refine dH (aN @l1 @nY) ?_;have hv:=hl.v;have ha:=cL a;rw[bY ha]at hv;simp only[Nat.pow_zero,mB,Nat.mul_zero,pE,Nat.add_zero]at hv;obtain⟨n,hn⟩: ∃n,n=a.length+b.length:=⟨_,rfl⟩;have hn':((a.length:Int)+(b.length:Int))=(n:Int):=oO;obtain⟨T,hT⟩: ∃T,T=num a*num b:=⟨_,rfl⟩;rw[<-hT]at hv;have hTl:T<256^n:=by rw[hT,hn,cZ];exact gQ ha (cL b)
   rw[<-hT];simp only[hn',Int.toNat_natCast];refine af (α:=Nat) (fun i=>n-i) (fun i=>⟨[(2, .p 0 0 0),(10,E' n),(11, .rs 1016 0 0 n 1),(12,E' (le (l.take i)/256^i)),(54,E' n),(55,E' i)],if i<n then[(0,⟨0,aC .i64 l,false,el⟩),(1016,⟨0,aG (List.replicate (n-i) 0++be i T),false,none⟩)]else[(1016,⟨0,aG (List.replicate (n-i) 0++be i T),false,none⟩)],_⟩) (fun i=>i<=n) 0 (fun _=>ay _) (aJ _) ?_ ?_
   ·by_cases h0:0<n<;>simp only[h0,au,an]<;>(refine AS.Le.of (by first|decide|omega) ?_ ?_<;>simp[dy,dx,aO,az,AV.bd,AV.bd.bdL,u8,ar,ax,aA])<;>simp[le,be]
   ·intro i hi R hR;have hb:=oY n i T hi
    by_cases hlt:i<n
    ·obtain⟨e1,e2⟩:=s8 (l:=l) (i:=i) (by rw[hl.len];omega) hv.symm
     have hm:=hl.lo i;have hc:=hl.lo.carry i;have g1: ∀ _:True,(aC .i64 l).getD i .u= .v (.i .i64 (l.getD i 0:Nat)):=fun _=>dA (by rw[hl.len];omega)
     have g2: ∀ _:True,IntKind.i64.wrap (((le (l.take i)/256^i:Nat):Int)+((l.getD i 0:Nat):Int))=((le (l.take i)/256^i+l.getD i 0:Nat):Int):=fun _=>by
      have hs:le (l.take i)/256^i+l.getD i 0<=65025*(a.length+1)+65025*(a.length+1):=Nat.add_le_add hc hm;rw[<-Int.natCast_add];generalize le (l.take i)/256^i+l.getD i 0=z at hs⊢;rw[IntWalk.i64_in _ oO]
     rw[ah hlt];clear e1 e2 hm hc;refine dH (aN @l1 (aN (g1 oT) (aN (g2 oT) @hb))) ?_;obtain⟨e1,e2⟩:=s8 (l:=l) (i:=i) (by rw[hl.len];omega) hv.symm
     refine hR (i+1) oO oO _ ?_;rw[e2,show((n:Int)-1-i).toNat=n-1-i by omega,sV (c:=UInt8.ofNat (T/256^i)) oO (by rw[lu,ix,ix];exact congrArg _ e1),ir hlt]
     by_cases h0:i+1<n<;>simp only[h0,au,an]<;>(refine AS.Le.of (by first|decide|omega) ?_ ?_<;>simp[dy,dx,aO,az,AV.bd,AV.bd.bdL,u8,ar,ax,aA])<;>rfl
    ·obtain rfl:i=n:=oO;have:=kS (be i T);have hl':(be i T).length=i:=cv _ _;rw[ae hlt];repeat' first|simp only[go_sem,seval,hl',fA,List.replicate_zero,true_or,or_true,false_or,or_false,aj,kB,fK,jo,ic,ie,fM,rm,rZ,iG,jO,eV,aU,AV.aY,AV.aY.renL,aM]|(refine im this rfl rfl hl'.symm ?_)|refine oE ?_|apply xX<;>intro hc
     rw[jZ hTl]
def xl (a b:Bytes):Bytes×Int:=if aa a&&aa b then(if num a*num b<cW then(aX (num a*num b),0)else([],5))else([],3)
theorem eP (h:a.length<=8):num a<(2^64):=bH (cL a) (dF oC h)
theorem T5 (a b:Bytes):aD 378 [.s a, .s b] (.tup [.s (xl a b).1,E (xl a b).2]):=by
 by_cases hv:aa a=true/\aa b=true
 case neg=>
  refine eW call378 func378 ?_;repeat' first|simp only[go_sem,seval]|refine cP (aS _) ?_|refine oE ?_|apply xX<;>intro hc
  all_goals simp_all[xl]
 obtain⟨hva,hvb⟩:=hv;have la:=cT hva;have lb:=cT hvb;have sa:=oo a;have sb:=oo b;rw[hva,cj]at sa;rw[hvb,cj]at sb;have hlim:(2^64)<=cW:=by unfold cW;decide+kernel
 by_cases h8:a.length<=8/\b.length<=8
 ·rw[aI h8.1]at sa;rw[aI h8.2]at sb;have ha:=eP h8.1;have hb:=eP h8.2;refine eW call378 func378 ?_;repeat' first|simp only[go_sem,seval,au]|refine cP (aS _) ?_|refine cP sa ?_|refine cP sb ?_|refine cP (sP _ _ ha hb) ?_|refine cP (lJ _ (aL _ oC)) ?_|(refine cd (Ah _ _ a b la lb _ (List.replicate 256 0) rfl) (by intro p hp;cases dt.1 hp;rfl) ?_)|refine cP (rY _) ?_|refine oE ?_|apply xX<;>intro hc
  ·have hp:num a*num b<(2^64):=oO;have hq:num a*num b<cW:=bH hp hlim;simp[xl,hva,hvb,hq,bY hp]
  ·simp only[lf,xl,hva,hvb,dE,au]
   split<;>simp
 ·have hn: ¬(a.length<=8/\b.length<=8):=h8;have hx:(if decide (a.length<=8)=true then((num a:Nat):Int)else 0)=((if a.length<=8 then num a else 0:Nat):Int):=by by_cases g:a.length<=8<;>simp[g]
  have hy:(if decide (b.length<=8)=true then((num b:Nat):Int)else 0)=((if b.length<=8 then num b else 0:Nat):Int):=by by_cases g:b.length<=8<;>simp[g]
  rw[hx]at sa;rw[hy]at sb;have ha:(if a.length<=8 then num a else 0)<(2^64):=by split;exact eP ‹_›;decide
  have hb:(if b.length<=8 then num b else 0)<(2^64):=by split;exact eP ‹_›;decide
  refine eW call378 func378 ?_;repeat' first|simp only[go_sem,seval]|refine cP (aS _) ?_|refine cP sa ?_|refine cP sb ?_|refine cP (sP _ _ ha hb) ?_|(refine cd (Ah _ _ a b la lb _ (List.replicate 256 0) rfl) (by intro p hp;cases dt.1 hp;rfl) ?_)|refine cP (rY _) ?_|refine oE ?_|apply xX<;>intro hc
  all_goals simp only[lf,xl,hva,hvb,dE,au]
  all_goals (split<;>simp)
theorem vD {b:Bytes} (ha:aa a=true) (hb:aa b=true) (h0:0<num b) (h:a.length<=8\/num a<num b):aD 357 [.s a, .s b] (.tup [.s (aX (num a/num b)), .s (aX (num a%num b))]):=by
 have hc:=oW (bL ha) (bL hb)
 by_cases hlt:num a<num b
 ·have e:ba (num a) (num b)= -1:=by simp[ba,hlt]
  rw[e]at hc;have e1:aX (num a/num b)=[]:=by rw[iD hlt];rfl
  have e2:aX (num a%num b)=a:=by rw[bY hlt];exact gN ha
  refine eW call357 func357 ?_;exact mi (aN @e1 @e2) @hc
 ·have la:a.length<=8:=h.resolve_right hlt;have lb:b.length<=8:=by
   rcases py a.length b.length with g|g
   ·have:=iE (a:=a) (bL hb) g;omega
   ·omega
  have sa:=oo a;have sb:=oo b;rw[ha,cj,aI la]at sa;rw[hb,cj,aI lb]at sb;have na:=eP la;have nb:=eP lb;have hc':0<=ba (num a) (num b):=by unfold ba;split<;>(try split)<;>omega
  have hq:num a/num b<(2^64):=fh (fg _ _) na;have hr:num a%num b<(2^64):=fh (uA _ _) na;refine eW call357 func357 ?_;repeat' first|simp only[go_sem,seval,au,uw,bY hq]|refine cP hc ?_|refine cP sa ?_|refine cP sb ?_|refine cP (lJ _ hq) ?_|refine cP (lJ _ hr) ?_|refine oE ?_|apply xX<;>intro hc
def tc (a b:Bytes):Bytes×Bytes×Int:=if aa a&&aa b then(if b=[]then([],[],11)else(aX (num a/num b),aX (num a%num b),0))else([],[],3)
theorem qP {b:Bytes} (h:Canon b) (h0:b≠[]):0<num b:=bH (gR oC) (ou h h0)
theorem JA (a b:Bytes) (h:aa a=true->aa b=true->b≠[]->a.length<=8\/num a<num b):aD 232 [.s a, .s b] (.tup [.s (tc a b).1, .s (tc a b).2.1,E (tc a b).2.2]):=by
 by_cases hv:aa a=true/\aa b=true
 case neg=>
  refine eW call232 func232 ?_;repeat' first|simp only[go_sem,seval]|refine cP (aS _) ?_|refine oE ?_|apply xX<;>intro hc
  all_goals simp_all[tc]
 obtain⟨hva,hvb⟩:=hv
 by_cases hb:b=[]
 ·subst hb;refine eW call232 func232 ?_;repeat' first|simp only[go_sem,seval]|refine cP (aS _) ?_|refine oE ?_|apply xX<;>intro hc
  all_goals simp_all[tc]
 ·have hp:=qP (bL hvb) hb;refine eW call232 func232 ?_;repeat' first|simp only[go_sem,seval]|refine cP (aS _) ?_|refine cP (vD hva hvb hp (h hva hvb hb)) ?_|refine oE ?_|apply xX<;>intro hc
  all_goals simp_all[tc]
abbrev N (n:Nat):PV:= .s (aX n)
theorem vN (h:n<(2^64)):aa (aX n)=true:=qS (jy h (by decide+kernel))
theorem lN (h:n<(2^64)):(aX n).length<=8:=oV.2 h
theorem sM {a:Nat} (ha:a<(2^64)) (hb:b<(2^64)) (h0:0<b):aD 232 [N a,N b] (.tup [N (a/b),N (a%b),E 0]):=by
 have:=JA (aX a) (aX b) (fun _ _ _=> .inl (lN ha))
 have e:aX b≠[]:=fun h=>by rw[gM]at h;omega
 simpa only[tc,vN ha,vN hb,dE,au,e,an,aP]using this
theorem ME {a:Nat} (ha:a<(2^64)) (hb:b<(2^64)) (h0:0<b):aD 357 [N a,N b] (.tup [N (a/b),N (a%b)]):=by
 have:=vD (vN ha) (vN hb) (by rw[aP];exact h0) (.inl (lN ha))
 simpa only[aP]using this
theorem G1:(aX 0==([]:Bytes))=true:=rfl
theorem tJ (h:n≠0):(aX n==([]:Bytes))=false:=by
 rw[ey];intro e;exact h (gM.1 e)
theorem wM (m n:Nat):(aX m==aX n)=decide (m=n):=by
 rw[dK];simp[Ib]
theorem Zu {a:Nat} (ha:a<(2^64)) (hb:b<(2^64)):aD 362 [N a,N b] (.tup [N (Nat.gcd a b),E 0]):=by
 have va:=aS (aX a);have vb:=aS (aX b);rw[vN ha]at va;rw[vN hb]at vb;refine eW call362 func362 ?_;refine zl2 @va @vb ?_;refine af (α:=Nat×Nat) (fun x=>x.2) (fun x=>⟨[(0, .v (N x.1)),(1, .v (N x.2))],[],_⟩) (fun x=>x.1<(2^64)/\x.2<(2^64)/\Nat.gcd x.1 x.2=Nat.gcd a b) (a,b) (fun _=>ay _) ⟨ha,hb,rfl⟩ ?_ ?_
 ·exact lE
 ·rintro⟨x,y⟩ ⟨hx,hy,hg⟩ R hR;simp only at hx hy hg
  by_cases h0:y=0
  ·subst h0;refine dH @G1 ?_;rw[<-hg,DY]
  ·have e:=tJ h0;have hd:=ME hx hy oO;refine kz @e @hd ?_;have hm:x%y<y:=aL _ oO;refine hR (y,x%y) ⟨hy,by show x%y< _;omega,?_⟩ hm _ ?_
   ·show Nat.gcd y (x%y)= _;rw[<-hg,iK x y,mE y x,iK]
   ·exact lE
theorem nn:(([]:Bytes)==[])=true:=rfl
theorem cn (c:UInt8) (r:Bytes):((c::r:Bytes)==[])=false:=rfl
def cE (n:Nat):Nat:=if n=0 then 0 else n.log2+1
theorem xC (h:aa a=true):aD 105 [.s a] (E (cE (num a))):=by
 have hv:=aS a;rw[h]at hv
 cases a with
 |nil=>
  refine eW call105 func105 ?_;repeat' first|simp only[go_sem,seval,nn]|refine cP hv ?_|refine oE ?_|apply xX<;>intro hc
  rfl
 |cons c r=>
  have hc:=bL h;have hl:=cT h;have hp:=qP hc (by simp)
  have hn:num (c::r)=c.toNat*256^r.length+num r:=rfl;have hr:=cL r;have hc0:c≠0:=by rcases hc with e|e;cases e;exact e
  have hct:0<c.toNat:=by
   rcases j6 c.toNat with e|e
   ·exact aW (jv.1 e:c=0) hc0
   ·exact e
  have hcl:=c.toNat_lt;have hb:=rF hct oO;have e256:256^r.length=2^(8*r.length):=by rw[show 256=2^8 from rfl,<-ko]
  have key:cE (num (c::r))=8*r.length+Lib.bitLen c.toNat:=by
   unfold cE;rw[ae oO];have:(num (c::r)).log2=8*r.length+Lib.bitLen c.toNat-1:=by
    rw[Nat.log2_eq_iff oO];have a1:2^(8*r.length+Lib.bitLen c.toNat-1)=2^(Lib.bitLen c.toNat-1)*256^r.length:=by rw[e256,<-cZ];congr 1;omega
    have a2:2^(8*r.length+Lib.bitLen c.toNat-1+1)=2^Lib.bitLen c.toNat*256^r.length:=by rw[e256,<-cZ];congr 1;omega
    rw[a1,a2,hn];have b1:=du (256^r.length) hb.2.1;have b2:=du (256^r.length) (show c.toNat+1<=2^Lib.bitLen c.toNat from hb.2.2)
    rw[c9]at b2;omega
   omega
  have hL:=H4 c.toNat oO;have hbl:=jR (x:=c.toNat) oO;have hl':r.length<=127:=by simpa using hl
  rw[key];clear hb e256 key hn hr hp hc;refine eW call105 func105 ?_;repeat' first|simp only[go_sem,seval,cn]|refine cP hv ?_|refine cP hL ?_|refine oE ?_|apply xX<;>intro hc
  congr 1;omega
theorem Xu {a:Nat} (ha:a<9223372036854775808) (hb:b<9223372036854775808):mU .i64 (a:Int) (b:Int)=((a&&&b:Nat):Int):=by
 have h1:a&&&b<9223372036854775808:=fh Nat.and_le_left ha;rw[mU,gH,gH,BitVec.toNat_and,kU,kU];show IntKind.i64.wrap ((a%2^64&&&b%2^64:Nat):Int)= _;rw[bY oO,bY oO,IntWalk.i64_in _ oO]
theorem yH (h:aa a=true) (i:Nat) (hi:i<4611686018427387904):aD 108 [.s a,E i] (.b ((num a).testBit i)):=by
 have hv:=aS a;rw[h]at hv;have hl:=cT h;have e0:(i:Int).tdiv 8=((i/8:Nat):Int):=rfl;have e1:(i:Int).tmod 8=((i%8:Nat):Int):=rfl;have hd:=lQ a (i/8) oO;have key:(num a).testBit i=decide (num a/256^(i/8)%256/2^(i%8)%2=1):=by
  rw[lA];congr 1;have e2:256^(i/8)=2^(8*(i/8)):=by rw[show 256=2^8 from rfl,<-ko]
  have e3:2^i=256^(i/8)*2^(i%8):=by rw[e2,<-cZ];congr 1;omega
  rw[e3,<-eZ];generalize num a/256^(i/8)=z;have h8:i%8<8:=aL _ oC;generalize i%8=j at h8;have:2^j*2^(8-j)=256:=by rw[<-cZ,show j+(8-j)=8 by omega]
  have e5:z%256/2^j=z/2^j%2^(8-j):=by rw[<-this,rh]
  rw[e5];have e6:2^(8-j)=2*2^(7-j):=by rw[<-yd];congr 1;omega
  rw[e6,Nat.mod_mul_right_mod]
 obtain⟨d,hdd⟩: ∃d,d=num a/256^(i/8)%256:=⟨_,rfl⟩;rw[<-hdd]at key hd;have hdl:d<256:=by rw[hdd];exact aL _ oC
 have hm: ∀ _:True,(if i%8<=64 then i%8 else 64)=i%8:=fun _=>by split<;>omega
 have ha: ∀ _:True,mU .i64 ((d/2^(i%8):Nat):Int) 1=((d/2^(i%8)%2:Nat):Int):=fun _=>by
  have hle:d/2^(i%8)<=d:=fg _ _;have:=Xu (a:=d/2^(i%8)) (b:=1) oO oC;rw[Nat.and_one_is_mod]at this;exact this
 have hs:a.length<=i/8->d=0:=fun g=>by rw[hdd,si a g]
 rw[key];clear key hdd;refine eW call108 func108 ?_;repeat' first|simp only[go_sem,seval,e0,e1,hm oT,ha oT]|refine cP hv ?_|refine cP hd ?_|refine oE ?_|apply xX<;>intro hc
 ·congr 1;rw[dK];simp only[eT,cq];omega
 ·rw[hs oO];simp
end Go.Proofs.Tryz
namespace Go.Proofs.Tryz
open Go Go.Dom Go.RowKit Go.Shelf
theorem ry.calls {P:Program} [cu P] {f:FuncId} {args:List PV} {r:PV} (h:ry P f args r) (he:Go.Dom.Enters P f f) (w:World) (rd:Rd) (vs:List Value) (h1: ∀b o v,TR P b o=some v->rd b o=some v) (h2: ∀b o v,rd b o=some v->w.cell? ⟨b,o,none⟩=some v) (h3:bI (PR rd) args vs):
  CallsIn Fence.wide 0 P f vs.toArray w fun e w'=> ∃v,e= .returned v/\Below w.heap.size w w'/\PR (fQ rd w w') r v:=by
 obtain⟨g,hg,hc⟩:=h;have:g=f:=by
  have a:=hg #[] w;rw[he #[] w]at a
  cases a;rfl
 subst this;exact callsIn_wide.2 (hc w rd vs h1 h2 h3)
def GH (n:Nat):Nat->List (List PV)
 |0=>[]
 |k+1=>[.b (n.testBit k)]::GH n k
theorem JX (e:Bytes) (he:aa e=true):Y9 prog 468 [.pt (.agg [.s e]) 0] true (GH (num e) (cE (num e))):=by
 refine⟨call468,?_⟩;intro w rd cvs l J Jx htr hcaps hrd hb hbx hY _ h0;obtain⟨p,us,rfl,hp,hnil⟩:=hcaps.fO;obtain rfl:=hnil.ew;obtain⟨bk,of,rfl,hcell⟩: ∃bk of,p= .pointer (some ⟨bk,of,none⟩)/\rd bk of=some (.string ⟨e.toArray⟩):=by
  cases hp with
  |pt x o vs bk of h1 hl hr h=>
   obtain⟨v,rfl⟩:=px.1 (show vs.length=1 from hl.symm)
   have:=h 0 (.s e) v rfl rfl;cases this;exact⟨bk,of,rfl,hr 0 _ rfl⟩
 refine callsIn_of_wp func468 rfl oT ?_;simp only[Tryz.ntmps468,mC,List.length_cons,List.length_nil,Nat.reduceAdd,Nat.reduceSub,Array.replicate_succ,Array.replicate_zero,List.push_toArray,List.append_toArray,List.nil_append,List.cons_append];have hc0:=hrd _ _ h0 _ _ _ hcell
 gi_wp2
 refine⟨trivial,rfl,(ry.calls (xC he) call105 w rd [_] htr (hrd _ _ h0) ?_).mono ?_⟩
 ·exact .cons (.s e) .nil
 rintro x w1 ⟨v,rfl,hbl,hpr⟩;cases hpr;have h1:=hb _ _ _ h0 hbl;clear hbl h0 hc0;have hbd:cE (num e)<2^60:=by
  have hl:=cT he;have:=cL e;unfold cE;split
  ·decide
  ·rename_i h0;have h1:num e<2^(8*e.length):=by rw[ko];exact this
   have h2:=(yF h0).2 h1;omega
 have hw:IntKind.i64.wrap ((cE (num e):Int)-1)=(cE (num e):Int)-1:=IntWalk.i64_in _ oO
 gi_wp2
 gi_loopw [3] (fun p wr=> ∃k:Nat,p= .int .i64 ((k:Int)-1)/\k<=cE (num e)/\J (GH (num e) k) wr) (fun p wr=>match p with| .int _ n=>(n+1).toNat| _=>0)
 case atStart=>
  exact⟨_,rfl,ay _,h1⟩
 case round=>
  obtain⟨k,rfl,hk,hJ⟩:=hrel;have hcr:=hrd _ _ hJ _ _ _ hcell
  cases k with
  |zero=>
   gi_wp2
   go_end0
   exact⟨⟨_,rfl⟩, .inl hJ⟩
  |succ k=>
   have hw2:((k+1:Nat):Int)-1=(k:Int):=oO;rw[hw2]
   gi_wp2
   refine⟨trivial,rfl,(ry.calls (yH he k oO) call108 wr rd [_,_] htr (hrd _ _ hJ) ?_).mono ?_⟩
   ·exact .cons (.s e) (.cons (.i _ _) .nil)
   rintro x w2 ⟨v,rfl,hbl,hpr⟩;cases hpr;have hJ2:=hb _ _ _ hJ hbl;obtain⟨fn,tmps,assign,body,hy,hR⟩:=hY [.b ((num e).testBit k)] (GH (num e) k) [.bool ((num e).testBit k)] w2 hJ2 (.cons (.b _) .nil)
   gi_wp2
   refine⟨rfl,hR.mono ?_⟩;rintro x W3 (⟨rfl,hJ3⟩|⟨rfl,hJx⟩)
   ·have hw3:IntKind.i64.wrap ((k:Int)-1)=(k:Int)-1:=IntWalk.i64_in _ oO
    gi_wp2
    go_roundw
    case rel=>exact⟨k,rfl,oO,hJ3⟩
    case measure=>simp
   ·gi_wp2
    refine bodyPost_ret (results_none rfl _ _ _) rfl ?_;exact⟨⟨_,rfl⟩, .inr hJx⟩
end Go.Proofs.Tryz
namespace Go.Proofs.Tryz
open Go Go.Dom
def sY (l:List Bytes) (m:Bytes):Int:=if l.all aa&&aa m then(if m=[]then 11 else 0)else 3
theorem UM (nm:Nat) (a m:Bytes):mw prog 216 nm [] [.fs [.s a], .fs [.s m]] (.v (E (sY [a] m))) []:=by
 refine mw.w mixed call216 func216 rfl (nf.1 _ _ _ (by cbv)) (nf.2 _ _ (by cbv)) (obs:=[]) (args:=[.fs [.s a], .fs [.s m]]) (fs:=[]) (j:=none) (nw:=none) (v:= .v (E (sY [a] m))) (ns:=[]) (obsA:=[]) rfl ?_ (by simp) (by simp) rfl rfl (by simp[bz,AV.aY]) (by simp[AV.aY]) (by simp[gY,outs])
 have va:=aS a;have vm:=aS m;simp only[go_sem,seval];repeat' first|simp only[go_sem,seval,true_or,or_true,false_or,or_false,aj,kB,fK,jo,ic,ie,fM,rm,rZ,iG,jO,eV,aU,AV.aY,AV.aY.renL,aM,fY,eK]|refine cP va ?_|refine cP vm ?_|(refine ai ?_)|refine oE ?_|apply xX<;>intro hc
 all_goals simp_all[sY]
theorem CF (nm:Nat) (a b m:Bytes):mw prog 216 nm [] [.fs [.s a, .s b], .fs [.s m]] (.v (E (sY [a,b] m))) []:=by
 refine mw.w mixed call216 func216 rfl (nf.1 _ _ _ (by cbv)) (nf.2 _ _ (by cbv)) (obs:=[]) (args:=[.fs [.s a, .s b], .fs [.s m]]) (fs:=[]) (j:=none) (nw:=none) (v:= .v (E (sY [a,b] m))) (ns:=[]) (obsA:=[]) rfl ?_ (by simp) (by simp) rfl rfl (by simp[bz,AV.aY]) (by simp[AV.aY]) (by simp[gY,outs])
 have va:=aS a;have vb:=aS b;have vm:=aS m;simp only[go_sem,seval];repeat' first|simp only[go_sem,seval,true_or,or_true,false_or,or_false,aj,kB,fK,jo,ic,ie,fM,rm,rZ,iG,jO,eV,aU,AV.aY,AV.aY.renL,aM,fY,eK]|refine cP va ?_|refine cP vb ?_|refine cP vm ?_|(refine ai ?_)|refine oE ?_|apply xX<;>intro hc
 all_goals simp_all[sY]
theorem Ta {a m:Nat} (ha:a<(2^64)) (hm:m<(2^64)) (h0:0<m):sY [aX a] (aX m)=0:=by
 have:aX m≠[]:=fun h=>by rw[gM]at h;omega
 simp[sY,vN ha,vN hm,this]
theorem wN {a m:Nat} {e:Bytes} (ha:a<(2^64)) (he:aa e=true) (hm:m<(2^64)) (h0:0<m):sY [aX a,e] (aX m)=0:=by
 have:aX m≠[]:=fun h=>by rw[gM]at h;omega
 simp[sY,vN ha,he,vN hm,this]
theorem Gq {a:Nat} (h:a<(2^64)):aD 235 [N a] (.tup [.i .u64 a, .b true]):=by
 have:=oo (aX a);rw[vN h,aI (lN h),aP]at this;exact this
theorem HL {a b m:Nat} (ha:a<(2^64)) (hb:b<(2^64)) (hm:m<(2^64)) (h0:0<m):aD 220 [N a,N b,N m] (N (a*b%m)):=by
 have la:=lN ha;have lb:=lN hb;have lm:=lN hm;have h1:a%m<(2^64):=fh (uA _ _) ha;have h2:b%m<(2^64):=fh (uA _ _) hb;have hq:=sP (a%m) (b%m) h1 h2;have h3:a%m*(b%m)/(2^64)<(2^64):=(iC oC).2 (gQ h1 h2);have hr:=LP (a%m*(b%m)/(2^64)) (a%m*(b%m)%(2^64)) m h0 h3 (aL _ oC) hm;have e:a%m*(b%m)/(2^64)*(2^64)+a%m*(b%m)%(2^64)=a%m*(b%m):=oO;rw[e,<-dp]at hr;have ho:=lJ (a*b%m) (jy (aL _ h0) hm);have sa:=Gq ha;have sb:=Gq hb;have sm:=Gq hm;clear h3 e h1 h2;refine eW call220 func220 ?_;exact z7 @sa @sb @sm @hq @hr @ho oT
theorem l8 {a m:Nat} (ha:a<(2^64)) (hm:m<(2^64)) (h0:0<m):aD 218 [N a,N m] (N (a%m)):=by
 refine eW call218 func218 ?_;exact z1 (sM ha hm h0)
theorem qk {a b m:Nat} (ha:a<(2^64)) (hb:b<(2^64)) (hm:m<(2^64)) (h0:0<m):aD 107 [N a,N b,N m] (.tup [N (a*b%m),E 0]):=by
 have hc:=fun nm=>CF nm (aX a) (aX b) (aX m)
 rw[wN ha (vN hb) hm h0]at hc;refine eW call107 func107 ?_;repeat' first|simp only[go_sem,seval]|(refine cd (hc _) (by simp) ?_)|refine cP (HL ha hb hm h0) ?_|refine oE ?_|apply xX<;>intro hc
theorem JY (e:Bytes):aD 433 [.s e] (.fc 468 [] [.pt (.agg [.s e]) 0]):=by
 refine eW call433 func433 ?_;exact z0
theorem EG (n:Nat): ∀k,∀y∈GH n k,y.length=1
 |0,y,h=>by cases h
 |k+1,y,h=>by
  rcases cr.1 h with rfl|h
  ·rfl
  ·exact EG n k y h
theorem fb:(.s [1]:PV)=N 1:=rfl
theorem TA {a z m:Nat}:a^z%m*(a^z%m)%m=a^(2*z)%m:=by rw[<-dp,<-cZ,qY]
theorem Wh {a z m:Nat}:a^z%m*(a^z%m)%m*(a%m)%m=a^(2*z+1)%m:=by rw[TA,<-dp,<-Nat.pow_succ]
theorem WW {a m:Nat} {e:Bytes} (ha:a<(2^64)) (he:aa e=true) (hm:m<(2^64)) (h0:0<m):aD 360 [N a, .s e,N m] (.tup [N (a^num e%m),E 0]):=by
 have hc:=fun nm=>CF nm (aX a) e (aX m)
 rw[wN ha he hm h0]at hc;have h1:=l8 (a:=1) oC hm h0;refine eW call360 func360 ?_;simp only[go_sem,seval,fb];repeat' first|simp only[go_sem,seval,fb]|(refine cd (hc _) (by simp) ?_)|refine cP (l8 ha hm h0) ?_|refine cP h1 ?_|refine cP (JY e) ?_|(refine LC (JX e he) rfl (EG _ _) ?_)|refine oE ?_|apply xX<;>intro hc
 obtain⟨n,hn⟩: ∃n,n=num e:=⟨_,rfl⟩;rw[<-hn];have hbl:n/2^cE n=0:=by
  refine iD ?_;unfold cE;split
  ·subst_vars;rename_i h;rw[h];decide
  ·rename_i h;exact uQ
 refine Wa (α:=Nat) (fun k=>⟨[(3, .p 1000 0 0),(5, .p 1001 0 0),(9, .p 1019 0 0)],[(1000,⟨0,[.v (N (a%m))],false,none⟩),(1001,⟨0,[.v (N m)],false,none⟩),(1019,⟨0,[.v (N (a^(n/2^k)%m))],false,some 22⟩)],_⟩) (fun ys k=>ys=GH n k) (cE n) (fun _=>ay _) rfl ?_ ?_ ?_
 ·(refine AS.Le.of (by first|decide|omega) ?_ ?_<;>simp[dy,dx,aO,az,AV.bd,AV.bd.bdL,u8,ar,ax,aA])
  rw[hbl,Nat.pow_zero]
 ·intro k hk
  cases k with
  |succ k=>cases hk
  |zero=>
   refine xB ?_;rw[iR]
 ·intro y ys k hk R hR
  cases k with
  |zero=>cases hk
  |succ k=>
   simp only[GH,List.cons.injEq]at hk;obtain⟨rfl,rfl⟩:=hk;obtain⟨x,hx⟩: ∃x,x=a^(n/2^(k+1))%m:=⟨_,rfl⟩;have hxm:x<m:=by rw[hx];exact aL _ h0
   have t1:=HL (a:=x) (b:=x) oO oO hm h0;have hxx:x*x%m<m:=aL _ h0;have ham:a%m<m:=aL _ h0;have t2:=HL (a:=x*x%m) (b:=a%m) oO oO hm h0;have hbit:=lA (x:=n) (i:=k);have hdd:n/2^(k+1)=n/2^k/2:=by rw[Nat.pow_succ,eZ]
   rw[<-hx,hbit];repeat' first|simp only[go_sem,seval]|refine cP t1 ?_|refine cP t2 ?_|refine oE ?_|apply xX<;>intro hc
   ·have hb2:n/2^k=2*(n/2^(k+1))+1:=oO;refine hR k rfl _ ?_;rw[hb2,hx,Wh];exact lE
   ·have hb2:n/2^k=2*(n/2^(k+1)):=oO;refine hR k rfl _ ?_;rw[hb2,hx,TA];exact lE
theorem RK (n:Nat):(aX n==([1]:Bytes))=decide (n=1):=wM n 1
