/-
  Part of the proof, part FA21. Own work.
-/
import Derived.Test.YtfdjchnefpefbaaGreatDoorFA20
set_option linter.all false
namespace Go.Proofs.YtfdjchnefpefbaaGreatDoor
open Go Go.Dom
set_option maxRecDepth 100000
theorem kf (n:Nat) (hn:n<18446744073709551616):aA Tryz.prog 70 [.i .u64 n] (.s (aO n)):=by
 refine eW Tryz.call70 Tryz.func70 ?_;simp only[go_sem,seval];refine af (α:=Nat) (fun i=>8-i) (fun i=>⟨[(0, .v (.i .u64 n)),(3, .p 1001 0 0),(5, .v (.i .i64 i))],[(1001,⟨0,ay (List.replicate (8-i) 0++be i n),false,some 221⟩)],1003⟩) (fun i=>i<=8) 0 (fun _=>an _) (aH _) ?_ ?_
 ·(refine AS.Le.of (by first|decide|omega) ?_ ?_<;>simp[dM,dL,aK,aj,AV.bd,AV.bd.bdL,u8,ai,ak,ar]);rfl
 ·intro i hi R hR;have hl:(List.replicate (8-i) (0:UInt8)++be i n).length=8:=by simp[cj];omega
  by_cases hlt:i<8
  ·refine fx @hl ?_;refine hR (i+1) oO oO _ ?_;have e1:(8*(i:Int)).toNat=8*i:=by omega
   have e2:((7:Int)-i).toNat=8-1-i:=by omega
   have e3:IntKind.u8.wrap ((n/2^(8*i):Nat):Int)=((UInt8.ofNat (n/256^i)).toNat:Int):=by
    rw[j4,jo]
   rw[e1,e2,if_pos oO,qZ oO e3,gi hlt]
   (refine AS.Le.of (by first|decide|omega) ?_ ?_<;>simp[dM,dL,aK,aj,AV.bd,AV.bd.bdL,u8,ai,ak,ar]);rfl
  ·obtain rfl:i=8:=by omega
   have:=jI (be 8 n);have hl:(be 8 n).length=8:=cj 8 n;repeat' first|simp only[go_sem,seval,hl]|(refine fZ this rfl rfl hl.symm ?_)|refine sB ?_|apply xX<;>intro hc|refine⟨oD,?_⟩|exact oD|fail
   rw[ji oO]
def dw:Nat:=256^128
theorem pk {n:Nat}:(aO n).length<=128↔n<dw:=nA
def y2 (a b:Bytes):Bytes×Int:=if aa a&&aa b then(if num a+num b<dw then(aO (num a+num b),0)else([],5))else([],3)
theorem mG (n:Nat):(List.replicate n [AV.v (PV.i IntKind.u8 0)]).flatten=ay (List.replicate n 0):=by
 induction n with
 |zero=>rfl
 |succ n ih=>simp[List.replicate_succ,ay,u8]at ih⊢
theorem nE (n i x:Nat) (h:i<=n):(List.replicate (n-i) (0:UInt8)++be i x).length=n:=by simp[cj];omega
theorem RV (a b:Bytes):aA Tryz.prog 77 [.s a, .s b] (.tup [.s (y2 a b).1,E (y2 a b).2]):=by
 have hmax:(if(b.length:Int)>(a.length:Int)then(b.length:Int)else(a.length:Int))=((max a.length b.length:Nat):Int):=by
  split<;>omega
 by_cases hv:aa a=true/\aa b=true
 case neg=>
  refine eW Tryz.call77 Tryz.func77 ?_;repeat' first|simp only[go_sem,seval]|refine cP (aJ _) ?_|refine sB ?_|apply xX<;>intro hc|refine⟨oD,?_⟩|exact oD|fail
  all_goals simp_all[y2]
 obtain⟨hva,hvb⟩:=hv;have la:=cE hva;have lb:=cE hvb;obtain⟨n,hn⟩: ∃n,n=max a.length b.length+1:=⟨_,rfl⟩;have hn2:((max a.length b.length:Nat):Int)+1=(n:Int):=by omega
 refine eW Tryz.call77 Tryz.func77 ?_;repeat' first|simp only[go_sem,seval,hmax,hn2,mG]|refine cP (aJ _) ?_|refine sB ?_|apply xX<;>intro hc|refine⟨oD,?_⟩|exact oD|fail
 refine af (α:=Nat) (fun i=>n-i) (fun i=>⟨[(0, .v (.s a)),(1, .v (.s b)),(6, .v (.i .i64 n)),(7, .rs 1018 0 0 n 1),(8, .v (.i .i64 (carry (num a) (num b) (256^i)))),(26, .v (.i .i64 n)),(27, .v (.i .i64 i))],[(1018,⟨0,ay (List.replicate (n-i) 0++be i (num a+num b)),false,none⟩)],1023⟩) (fun i=>i<=n) 0 (fun _=>an _) (aH _) ?_ ?_
 ·(refine AS.Le.of (by first|decide|omega) ?_ ?_<;>simp[dM,dL,aK,aj,AV.bd,AV.bd.bdL,u8,ai,ak,ar])
  ·simp[carry,kQ]
  ·simp[be]
 ·intro i hi R hR;have hl:=nE n i (num a+num b) hi;have hp:=iG i;have hc1:=CQ (num a) (num b) hp
  by_cases hlt:i<n
  ·repeat' first|simp only[go_sem,seval,hl]|refine cP (ko a i oO) ?_|refine cP (ko b i oO) ?_|refine sB ?_|apply xX<;>intro hc|refine⟨oD,?_⟩|exact oD|fail
   refine hR (i+1) oO oO _ ?_;have e2:((n:Int)-1-i).toNat=n-1-i:=by omega
   have e0:((carry (num a) (num b) (256^i):Nat):Int)+(((num a/256^i%256:Nat):Int)+((num b/256^i%256:Nat):Int))=((carry (num a) (num b) (256^i)+(num a/256^i%256+num b/256^i%256):Nat):Int):=by omega
   rw[e0,e2,qZ oO ((j4 _).trans (by rw[wT _ _ hp])),gi hlt,show(256:Int)=((256:Nat):Int)from rfl,AW,wU _ _ hp,<-Nat.pow_succ]
   (refine AS.Le.of (by first|decide|omega) ?_ ?_<;>simp[dM,dL,aK,aj,AV.bd,AV.bd.bdL,u8,ai,ak,ar]);rfl
  ·obtain rfl:i=n:=by omega
   have:=jI (be i (num a+num b));have hl:(be i (num a+num b)).length=i:=cj _ _;repeat' first|simp only[go_sem,seval,hl,eE,List.replicate_zero]|(refine fZ this rfl rfl hl.symm ?_)|refine cP (qt _) ?_|refine sB ?_|apply xX<;>intro hc|refine⟨oD,?_⟩|exact oD|fail
   have h1:num a+num b<256^i:=by
    have g1:=cb a;have g2:=cb b;have p1:256^a.length<=256^(i-1):=cI oC oO;have p2:256^b.length<=256^(i-1):=cI oC oO;have p3:256^i=256^(i-1)*256:=by rw[<-Nat.pow_succ];congr 1;omega
    omega
   rw[ji h1];simp only[pk,y2,hva,hvb,db,if_true]
   split<;>simp
theorem PB (a b:Bytes) (ha:a.length<=128) (hb:b.length<=128) (h:num b<=num a):aA Tryz.prog 146 [.s a, .s b] (.s (aO (num a-num b))):=by
 obtain⟨n,hn⟩: ∃n,n=a.length:=⟨_,rfl⟩;refine eW Tryz.call146 Tryz.func146 ?_;simp only[go_sem,seval,<-hn];repeat' first|simp only[go_sem,seval,<-hn,mG]|refine sB ?_|apply xX<;>intro hc|refine⟨oD,?_⟩|exact oD|fail
 refine af (α:=Nat) (fun i=>n-i) (fun i=>⟨[(0, .v (.s a)),(1, .v (.s b)),(5, .v (.i .i64 n)),(6, .rs 1005 0 0 n 1),(7, .v (.i .i64 (borrow (num a) (num b) (256^i)))),(14, .v (.i .i64 n)),(15, .v (.i .i64 i))],[(1005,⟨0,ay (List.replicate (n-i) 0++be i (num a-num b)),false,none⟩)],1010⟩) (fun i=>i<=n) 0 (fun _=>an _) (aH _) ?_ ?_
 ·(refine AS.Le.of (by first|decide|omega) ?_ ?_<;>simp[dM,dL,aK,aj,AV.bd,AV.bd.bdL,u8,ai,ak,ar])
  ·simp[borrow,kQ]
  ·simp[be]
 ·intro i hi R hR;have hl:=nE n i (num a-num b) hi;have hp:=iG i;have hc1:=zE (num a) (num b) (256^i);have hb1:=uy (num a) (num b) hp;have hb2:=ux (num a) (num b) hp h;have e2:((n:Int)-1-i).toNat=n-1-i:=by omega
  by_cases hlt:i<n
  ·repeat' first|simp only[go_sem,seval,hl]|refine cP (ko a i oO) ?_|refine cP (ko b i oO) ?_|refine sB ?_|apply xX<;>intro hc|refine⟨oD,?_⟩|exact oD|fail
   ·refine hR (i+1) oO oO _ ?_;rw[e2,qZ (c:=UInt8.ofNat ((num a-num b)/256^i)) oO (by rw[UU,gG,<-hb2 _ rfl];omega),gi hlt]
    (refine AS.Le.of (by first|decide|omega) ?_ ?_<;>simp[dM,dL,aK,aj,AV.bd,AV.bd.bdL,u8,ai,ak,ar])
    ·rw[Nat.pow_succ,hb1,if_pos hc];rfl
    ·rfl
   ·refine hR (i+1) oO oO _ ?_;rw[e2,qZ (c:=UInt8.ofNat ((num a-num b)/256^i)) oO (by rw[UU,gG,<-hb2 _ rfl]),gi hlt]
    (refine AS.Le.of (by first|decide|omega) ?_ ?_<;>simp[dM,dL,aK,aj,AV.bd,AV.bd.bdL,u8,ai,ak,ar])
    ·rw[Nat.pow_succ,hb1,if_neg hc];rfl
    ·rfl
  ·obtain rfl:i=n:=by omega
   have:=jI (be i (num a-num b));have hl:(be i (num a-num b)).length=i:=cj _ _;repeat' first|simp only[go_sem,seval,hl,eE,List.replicate_zero]|(refine fZ this rfl rfl hl.symm ?_)|refine sB ?_|apply xX<;>intro hc|refine⟨oD,?_⟩|exact oD|fail
   have h1:num a-num b<256^i:=by have:=cb a;rw[hn];omega
   rw[ji h1]
def ui (a b:Bytes):Bytes×Int:=if aa a&&aa b then(if num b<=num a then(aO (num a-num b),0)else([],2))else([],3)
theorem fX {a b:Nat}:aU a b<0↔a<b:=by unfold aU;split<;>(try split)<;>omega
theorem JY (a b:Bytes):aA Tryz.prog 75 [.s a, .s b] (.tup [.s (ui a b).1,E (ui a b).2]):=by
 by_cases hv:aa a=true/\aa b=true
 case neg=>
  refine eW Tryz.call75 Tryz.func75 ?_;repeat' first|simp only[go_sem,seval]|refine cP (aJ _) ?_|refine sB ?_|apply xX<;>intro hc|refine⟨oD,?_⟩|exact oD|fail
  all_goals simp_all[ui]
 obtain⟨hva,hvb⟩:=hv;refine eW Tryz.call75 Tryz.func75 ?_;repeat' first|simp only[go_sem,seval]|refine cP (aJ _) ?_|refine cP (nB (bK hva) (bK hvb)) ?_|(refine il (PB _ _ (cE hva) (cE hvb) (by rw[fX]at hc;omega)) rfl ?_)|refine sB ?_|apply xX<;>intro hc|refine⟨oD,?_⟩|exact oD|fail
 ·rw[fX]at hc;simp[ui,hva,hvb,show¬num b<=num a by omega]
 ·rw[fX]at hc;simp[ui,hva,hvb,show num b<=num a by omega]
end Go.Proofs.YtfdjchnefpefbaaGreatDoor
namespace Go.Proofs.YtfdjchnefpefbaaGreatDoor
open Go Go.Dom
set_option maxRecDepth 100000
set_option maxHeartbeats 4000000
theorem UP {l:List Nat} {i:Nat} (h:i<l.length):(l.map fun n:Nat=>PV.i .u8 n).getD i .fn0= .i .u8 (l.getD i 0:Nat):=by
 simp[aR,h]
theorem qi (x:Nat) (h0:x≠0) (h:x<18446744073709551616):aA Tryz.prog 264 [.i .u64 x] (E (Lib.ctz 64 x:Nat)):=by
 obtain⟨g1,g2⟩:=Lib.lowest_bit 64 x h0 h;obtain⟨g3,g4⟩:=Lib.deBruijn64_at _ g2;obtain⟨k,hk⟩: ∃k,k=Lib.ctz 64 x:=⟨_,rfl⟩;rw[<-hk]at g1 g2 g3 g4⊢;obtain⟨p,hp⟩: ∃p,p=2^k:=⟨_,rfl⟩;rw[<-hp]at g1 g3 g4;obtain⟨i,hi⟩: ∃i,i=p*285870213051353865%18446744073709551616/288230376151711744:=⟨_,rfl⟩;rw[<-hi]at g3 g4;have e1: ∀ _:True,IntKind.u64.wrap (0-(x:Int))=((18446744073709551616-x:Nat):Int):=fun _=>by rw[zp];omega
 have e2: ∀ _:True,lk .u64 (x:Int) ((18446744073709551616-x:Nat):Int)=((p:Nat):Int):=fun _=>by
  rw[Lw .u64 rfl h (by show 18446744073709551616-x<18446744073709551616;omega)];exact congrArg _ g1
 have e3: ∀ _:True,p*285870213051353865%18446744073709551616/288230376151711744=i:=fun _=>hi.symm
 have e4:=UP (l:=Lib.deBruijn64tab) (i:=i) (by exact g3)
 rw[g4]at e4;have e5: ∀ _:True,([(.i .u8 0),(.i .u8 1),(.i .u8 56),(.i .u8 2),(.i .u8 57),(.i .u8 49),(.i .u8 28),(.i .u8 3),(.i .u8 61),(.i .u8 58),(.i .u8 42),(.i .u8 50),(.i .u8 38),(.i .u8 29),(.i .u8 17),(.i .u8 4),(.i .u8 62),(.i .u8 47),(.i .u8 59),(.i .u8 36),(.i .u8 45),(.i .u8 43),(.i .u8 51),(.i .u8 22),(.i .u8 53),(.i .u8 39),(.i .u8 33),(.i .u8 30),(.i .u8 24),(.i .u8 18),(.i .u8 12),(.i .u8 5),(.i .u8 63),(.i .u8 55),(.i .u8 48),(.i .u8 27),(.i .u8 60),(.i .u8 41),(.i .u8 37),(.i .u8 16),(.i .u8 46),(.i .u8 35),(.i .u8 44),(.i .u8 21),(.i .u8 52),(.i .u8 32),(.i .u8 23),(.i .u8 11),(.i .u8 54),(.i .u8 26),(.i .u8 40),(.i .u8 15),(.i .u8 34),(.i .u8 20),(.i .u8 31),(.i .u8 10),(.i .u8 25),(.i .u8 14),(.i .u8 19),(.i .u8 9),(.i .u8 13),(.i .u8 8),(.i .u8 7),(.i .u8 6)]:List PV).getD i .fn0= .i .u8 (k:Nat):=fun _=>e4
 clear g1 g4 hi hp e4;refine eW Tryz.call264 Tryz.func264 ?_;simp only[go_sem,seval,e1 trivial,e2 trivial,rF,e3 trivial,e5 trivial];repeat' first|simp only[go_sem,seval,e1 trivial,e2 trivial,rF,e3 trivial,e5 trivial]|refine sB ?_|apply xX<;>intro hc|refine⟨oD,?_⟩|exact oD|fail
 all_goals skip
end Go.Proofs.YtfdjchnefpefbaaGreatDoor
namespace Go.Dom
def le:List Nat->Nat
 |[]=>0
 |x::r=>x+256*le r
theorem LO: ∀(l:List Nat) (p v:Nat),p<l.length->le (l.set p (l.getD p 0+v))=le l+v*256^p
 |x::r,0,v,_=>by simp[le];omega
 |x::r,p+1,v,h=>by
  have:=LO r p v (by simpa using h)
  simp only[List.set_cons_succ,le,cA,this,Nat.pow_succ,jn];have e:256*(v*256^p)=v*(256^p*256):=by rw[bc,bQ]
  omega
theorem Ts (n:Nat):le (List.replicate n 0)=0:=by induction n<;>simp_all[List.replicate_succ,le]
theorem xH: ∀(l:List Nat) (i:Nat),le l=le (l.take i)+256^i*le (l.drop i)
 |[],i=>by simp[le]
 |x::r,0=>by simp[le]
 |x::r,i+1=>by
  have:=xH r i;simp only[List.take_succ_cons,List.drop_succ_cons,le,Nat.pow_succ];rw[this,jn,<-bQ,bc 256 (256^i)];omega
theorem rD {l:List Nat} {i:Nat} (h:i<l.length):le (l.take (i+1))=le (l.take i)+l.getD i 0*256^i:=by
 have h1:=xH (l.take (i+1)) i;rw[List.take_take,pO (by omega)]at h1
 rw[h1];congr 1;have:(l.take (i+1)).drop i=[l.getD i 0]:=by
  rw[sF,show i+1-i=1 by omega,aR,bJ h]
  rw[List.take_one,List.head?_drop,bJ h];rfl
 rw[this];simp[le,bc]
theorem rj {l:List Nat} {i T:Nat} (h:i<l.length) (hT:T=le l):(le (l.take i)/256^i+l.getD i 0)%256=T/256^i%256/\(le (l.take i)/256^i+l.getD i 0)/256=le (l.take (i+1))/256^(i+1):=by
 have h1:=rD h;have h2:=xH l (i+1);have hp:=fI (n:=i) (show 0<256 by decide)
 have e1:le (l.take (i+1))/256^i=le (l.take i)/256^i+l.getD i 0:=by rw[h1,Nat.add_mul_div_right _ _ hp]
 rw[<-e1];constructor
 ·rw[hT,h2,Nat.pow_succ,bQ,mz _ _ hp];omega
 ·rw[Nat.pow_succ,eg]
def CH (m:Nat) (l:List Nat):Prop:= ∀i,l.getD i 0<=m
theorem CH.rep (n m:Nat):CH m (List.replicate n 0):=fun i=>by
 rw[aR]
 by_cases h:i<n<;>simp[h]
theorem CH.le {m:Nat} {l:List Nat} (h:CH m l) (i:Nat):Dom.le (l.take i)<=m*256^i:=by
 induction i with
 |zero=>simp[Dom.le]
 |succ i ih=>
  by_cases hi:i<l.length
  ·rw[rD hi,Nat.pow_succ];have:=cF (256^i) (h i);have e:m*(256^i*256)=m*256^i*256:=by rw[bQ]
   omega
  ·rw[cd (by omega)]at ih⊢
   exact ft ih (iw _ (cI (by decide) (by omega)))
theorem CH.carry {m:Nat} {l:List Nat} (h:CH m l) (i:Nat):Dom.le (l.take i)/256^i<=m:=by
 have:=h.le i;exact Nat.div_le_of_le_mul (by rw[bc];exact this)
structure uJ (L a b i k:Nat) (l:List Nat):Prop where
 len:l.length=L
 v:le l=a%256^i*b+a/256^i%256*(b%256^k)*256^i
 lo:CH (65025*(i+1)) l
 hi: ∀j,i+k<=j->l.getD j 0<=65025*i
theorem uJ.start (L a b:Nat):uJ L a b 0 0 (List.replicate L 0):=⟨B2,by rw[Ts];simp[kQ], .rep _ _,fun j _=>CH.rep L 0 j⟩
theorem uJ.step {L a b i k:Nat} {l:List Nat} (h:uJ L a b i k l) (hp:i+k<L):uJ L a b i (k+1) (l.set (i+k) (l.getD (i+k) 0+a/256^i%256*(b/256^k%256))):=by
 have hv:a/256^i%256*(b/256^k%256)<=65025:=jP (by omega:a/256^i%256<=255) (by omega:b/256^k%256<=255)
 have hh:=h.hi (i+k) (an _);refine⟨by simp[h.len],?_,fun j=> ?_,fun j hj=> ?_⟩
 ·rw[LO _ _ _ (by rw[h.len];exact hp),h.v,iA]
  congr 1;have e:=nX (x:=b) (a:=256^k) (b:=256);rw[show 256^(k+1)=256^k*256 from Nat.pow_succ ..,e,ct]
  generalize a/256^i%256=x;generalize b/256^k%256=y;generalize b%256^k=z;rw[jn,cu,bQ x y,bQ x (256^k*y),bc (256^i) (256^k),<-bQ y,bc y (256^k)]
 ·rw[aR,pF];split
  ·split
   ·simp only[Option.getD_some];omega
   ·simp
  ·have:=h.lo j;rw[aR]at this;exact this
 ·rw[aR,List.getElem?_set_ne (by omega),<-aR]
  exact h.hi j (by omega)
theorem uJ.row {L a b i k:Nat} {l:List Nat} (h:uJ L a b i k l) (hk:b<256^k):uJ L a b (i+1) 0 l:=by
 refine⟨h.len,?_,fun j=>by have:=h.lo j;omega,fun j _=>by have:=h.lo j;omega⟩
 rw[h.v,aV hk];have e:=nX (x:=a) (a:=256^i) (b:=256);rw[show 256^(i+1)=256^i*256 from Nat.pow_succ ..,e,cu]
 simp only[Nat.pow_zero,kQ,Nat.mul_zero,mA,Nat.add_zero];congr 1;rw[bc (256^i),bQ,bQ,bc b]
end Go.Dom
namespace Go.Proofs.YtfdjchnefpefbaaGreatDoor
open Go Go.Dom
set_option maxRecDepth 100000
set_option maxHeartbeats 4000000
abbrev E' (n:Nat):AV:= .v (.i .i64 n)
theorem yj (n nm:Nat) (a b:Bytes) (la:a.length<=128) (lb:b.length<=128) (el:Option TypeId) (zs:List Nat) (hz:zs=List.replicate 256 0):iB Tryz.prog 454 nm [(n,⟨0,aq .i64 zs,false,el⟩)] [.v (.s a), .v (.s b), .p n 0 0] (.v (.s (aO (num a*num b)))) [(n,none)]:=by
 refine iB.w mixed Tryz.call454 Tryz.func454 rfl (je.1 _ _ _ (by cbv)) (je.2 _ _ (by cbv)) (obs:=[⟨0,aq .i64 zs,false,el⟩]) (args:=[.v (.s a), .v (.s b), .p 0 0 0]) (fs:=[some none]) (j:=none) (nw:=none) (v:= .v (.s (aO (num a*num b)))) (ns:=[n]) (obsA:=[⟨0,aq .i64 zs,false,el⟩]) rfl ?_ (by simp) (by simp) rfl (by simp[aQ,au.aF,DR]) (by simp[aQ,AV.aF,cq]) (by simp[AV.aF]) (by simp[eK,outs])
 have r1:(aq .i64 zs).length=256:=by rw[aP,hz,B2]
 have r2:List.drop 256 (aq .i64 zs)=[]:=iO (by rw[r1];exact an _)
 have r3:=qw .i64 256;rw[<-hz]at r3;simp only[go_sem,seval,r1,r2,r3,-List.reduceReplicate];refine af (α:=Nat×List Nat) (fun x=>a.length-x.1) (fun x=>⟨[(0, .v (.s a)),(1, .v (.s b)),(2, .p 0 0 0),(18, .v (.i .i64 a.length)),(19, .v (.i .i64 x.1))],[(0,⟨0,aq .i64 x.2,false,el⟩)],_⟩) (fun x=>x.1<=a.length/\uJ 256 (num a) (num b) x.1 0 x.2) (0,zs) (fun _=>an _) ⟨aH _,hz▸ .start _ _ _⟩ ?_ ?_
 ·(refine AS.Le.of (by first|decide|omega) ?_ ?_<;>simp[dM,dL,aK,aj,AV.bd,AV.bd.bdL,u8,ai,ak,ar])
  all_goals skip
 ·rintro⟨i,l⟩ ⟨hi,hl⟩ R hR;simp only at hi hl;have l1:(aq .i64 l).length=256:=by rw[aP,hl.len]
  by_cases hlt:i<a.length
  ·repeat' first|simp only[go_sem,seval,l1]|refine cP (ko a i oO) ?_|refine sB ?_|apply xX<;>intro hc|refine⟨oD,?_⟩|exact oD|fail
   refine af (α:=Nat×List Nat) (fun x=>b.length-x.1) (fun x=>⟨[(0, .v (.s a)),(1, .v (.s b)),(2, .p 0 0 0),(7,E' i),(8,E' (num a/256^i%256)),(18,E' a.length),(19,E' i),(26,E' b.length),(27,E' x.1)],[(0,⟨0,aq .i64 x.2,false,el⟩)],_⟩) (fun x=>x.1<=b.length/\uJ 256 (num a) (num b) i x.1 x.2) (0,l) (fun _=>an _) ⟨aH _,hl⟩ ?_ ?_
   ·exact lE
   ·rintro⟨k,m⟩ ⟨hk,hm⟩ R' hR';simp only at hk hm;have m1:(aq .i64 m).length=256:=by rw[aP,hm.len]
    by_cases hklt:k<b.length
    ·obtain⟨x,hx⟩: ∃x,x=num a/256^i%256:=⟨_,rfl⟩;obtain⟨y,hy⟩: ∃y,y=num b/256^k%256:=⟨_,rfl⟩;have hst:=hm.step oO;rw[<-hx,<-hy]at hst;have hxy:x*y<=65025:=jP (by omega:x<=255) (by omega:y<=255)
     have hc:=hm.hi (i+k) (an _);have g1: ∀ _:True,(aq .i64 m).getD ((i:Int)+(k:Int)).toNat .u= .v (.i .i64 (m.getD (i+k) 0:Nat)):=fun _=>by
      rw[show((i:Int)+(k:Int)).toNat=i+k by omega,cH (by rw[hm.len];omega)]
     have g2: ∀ _:True,IntKind.i64.wrap ((x:Int)*(y:Int))=((x*y:Nat):Int):=fun _=>by
      rw[<-Int.natCast_mul,IntWalk.i64_in _ oO]
     have g3: ∀ _:True,IntKind.i64.wrap (((m.getD (i+k) 0:Nat):Int)+((x*y:Nat):Int))=((m.getD (i+k) 0+x*y:Nat):Int):=fun _=>by
      rw[<-Int.natCast_add,IntWalk.i64_in _ oO]
     have hd:=ko b k oO;rw[<-hy]at hd;rw[<-hx];clear hy hxy;refine o8 (aN @m1 (aN (g1 trivial) (aN (g2 trivial) (g3 trivial)))) @hd ?_;refine hR' (k+1,m.set (i+k) (m.getD (i+k) 0+x*y)) ⟨by show k+1<= _;omega,hst⟩ (by show b.length-(k+1)<b.length-k;omega) _ ?_
     rw[show((i:Int)+(k:Int)).toNat=i+k by omega,dx (by rw[hm.len];omega) rfl]
     (refine AS.Le.of (by first|decide|omega) ?_ ?_<;>simp[dM,dL,aK,aj,AV.bd,AV.bd.bdL,u8,ai,ak,ar])
     rw[hx];simp
    ·obtain rfl:k=b.length:=by omega
     refine wC ?_;refine hR (i+1,m) ⟨by show i+1<= _;omega,hm.row (cb b)⟩ (by show a.length-(i+1)<a.length-i;omega) _ ?_
     exact lE
  ·obtain rfl:i=a.length:=by omega
   repeat' first|simp only[go_sem,seval,l1,mG]|refine sB ?_|apply xX<;>intro hc|refine⟨oD,?_⟩|exact oD|fail
   have hv:=hl.v;have ha:=cb a;rw[aV ha]at hv;simp only[Nat.pow_zero,kQ,Nat.mul_zero,mA,Nat.add_zero]at hv;obtain⟨n,hn⟩: ∃n,n=a.length+b.length:=⟨_,rfl⟩;have hn':((a.length:Int)+(b.length:Int))=(n:Int):=by omega
   obtain⟨T,hT⟩: ∃T,T=num a*num b:=⟨_,rfl⟩;rw[<-hT]at hv;have hTl:T<256^n:=by rw[hT,hn,ct];exact fR ha (cb b)
   rw[<-hT];simp only[hn',Int.toNat_natCast];refine af (α:=Nat) (fun i=>n-i) (fun i=>⟨[(2, .p 0 0 0),(10,E' n),(11, .rs 1016 0 0 n 1),(12,E' (le (l.take i)/256^i)),(54,E' n),(55,E' i)],if i<n then[(0,⟨0,aq .i64 l,false,el⟩),(1016,⟨0,ay (List.replicate (n-i) 0++be i T),false,none⟩)]else[(1016,⟨0,ay (List.replicate (n-i) 0++be i T),false,none⟩)],_⟩) (fun i=>i<=n) 0 (fun _=>an _) (aH _) ?_ ?_
   ·by_cases h0:0<n<;>simp only[h0,if_true,if_false]<;>(refine AS.Le.of (by first|decide|omega) ?_ ?_<;>simp[dM,dL,aK,aj,AV.bd,AV.bd.bdL,u8,ai,ak,ar])<;>simp[le,be]
   ·intro i hi R hR;have hb:=nE n i T hi
    by_cases hlt:i<n
    ·obtain⟨e1,e2⟩:=rj (l:=l) (i:=i) (by rw[hl.len];omega) hv.symm
     have hm:=hl.lo i;have hc:=hl.lo.carry i;have g1: ∀ _:True,(aq .i64 l).getD i .u= .v (.i .i64 (l.getD i 0:Nat)):=fun _=>cH (by rw[hl.len];omega)
     have g2: ∀ _:True,IntKind.i64.wrap (((le (l.take i)/256^i:Nat):Int)+((l.getD i 0:Nat):Int))=((le (l.take i)/256^i+l.getD i 0:Nat):Int):=fun _=>by
      have hs:le (l.take i)/256^i+l.getD i 0<=65025*(a.length+1)+65025*(a.length+1):=Nat.add_le_add hc hm;rw[<-Int.natCast_add];generalize le (l.take i)/256^i+l.getD i 0=z at hs⊢;rw[IntWalk.i64_in _ oO]
     rw[if_pos hlt];clear e1 e2 hm hc;refine fx (aN @l1 (aN (g1 trivial) (aN (g2 trivial) @hb))) ?_;obtain⟨e1,e2⟩:=rj (l:=l) (i:=i) (by rw[hl.len];omega) hv.symm
     refine hR (i+1) oO oO _ ?_;rw[e2,show((n:Int)-1-i).toNat=n-1-i by omega,qZ (c:=UInt8.ofNat (T/256^i)) oO (by rw[j4,gG,gG];exact congrArg _ e1),gi hlt]
     by_cases h0:i+1<n<;>simp only[h0,if_true,if_false]<;>(refine AS.Le.of (by first|decide|omega) ?_ ?_<;>simp[dM,dL,aK,aj,AV.bd,AV.bd.bdL,u8,ai,ak,ar])<;>rfl
    ·obtain rfl:i=n:=by omega
     have:=jI (be i T);have hl':(be i T).length=i:=cj _ _;rw[if_neg hlt];repeat' first|simp only[go_sem,seval,hl',eE,List.replicate_zero,true_or,or_true,false_or,or_false,ae,ga,dS,fL,fh,fj,dT,nu,oe,fB,fQ,cJ,aB,AV.aF,AV.aF.renL,ax]|(refine fZ this rfl rfl hl'.symm ?_)|refine sB ?_|apply xX<;>intro hc|refine⟨oD,?_⟩|exact oD|fail
     rw[ji hTl]
def uR (a b:Bytes):Bytes×Int:=if aa a&&aa b then(if num a*num b<dw then(aO (num a*num b),0)else([],5))else([],3)
theorem dY {a:Bytes} (h:a.length<=8):num a<18446744073709551616:=bj (cb a) (cI oC h)
theorem Sj (a b:Bytes):aA Tryz.prog 392 [.s a, .s b] (.tup [.s (uR a b).1,E (uR a b).2]):=by
 by_cases hv:aa a=true/\aa b=true
 case neg=>
  refine eW Tryz.call392 Tryz.func392 ?_;repeat' first|simp only[go_sem,seval]|refine cP (aJ _) ?_|refine sB ?_|apply xX<;>intro hc|refine⟨oD,?_⟩|exact oD|fail
  all_goals simp_all[uR]
 obtain⟨hva,hvb⟩:=hv;have la:=cE hva;have lb:=cE hvb;have sa:=mS a;have sb:=mS b;rw[hva,cf]at sa;rw[hvb,cf]at sb;have hlim:18446744073709551616<=dw:=by unfold dw;decide+kernel
 by_cases h8:a.length<=8/\b.length<=8
 ·rw[decide_eq_true h8.1]at sa;rw[decide_eq_true h8.2]at sb;have ha:=dY h8.1;have hb:=dY h8.2;refine eW Tryz.call392 Tryz.func392 ?_;repeat' first|simp only[go_sem,seval,if_true]|refine cP (aJ _) ?_|refine cP sa ?_|refine cP sb ?_|refine cP (qS _ _ ha hb) ?_|refine cP (kf _ (aD _ oC)) ?_|(refine bC (yj _ _ a b la lb _ (List.replicate 256 0) rfl) (by intro p hp;cases dr.1 hp;rfl) ?_)|refine cP (qt _) ?_|refine sB ?_|apply xX<;>intro hc|refine⟨oD,?_⟩|exact oD|fail
  ·have hp:num a*num b<18446744073709551616:=by omega
   have hq:num a*num b<dw:=bj hp hlim;simp[uR,hva,hvb,hq,aV hp]
  ·simp only[pk,uR,hva,hvb,db,if_true]
   split<;>simp
 ·have hn: ¬(a.length<=8/\b.length<=8):=h8;have hx:(if decide (a.length<=8)=true then((num a:Nat):Int)else 0)=((if a.length<=8 then num a else 0:Nat):Int):=by by_cases g:a.length<=8<;>simp[g]
  have hy:(if decide (b.length<=8)=true then((num b:Nat):Int)else 0)=((if b.length<=8 then num b else 0:Nat):Int):=by by_cases g:b.length<=8<;>simp[g]
  rw[hx]at sa;rw[hy]at sb;have ha:(if a.length<=8 then num a else 0)<18446744073709551616:=by split;exact dY ‹_›;decide
  have hb:(if b.length<=8 then num b else 0)<18446744073709551616:=by split;exact dY ‹_›;decide
  refine eW Tryz.call392 Tryz.func392 ?_;repeat' first|simp only[go_sem,seval]|refine cP (aJ _) ?_|refine cP sa ?_|refine cP sb ?_|refine cP (qS _ _ ha hb) ?_|(refine bC (yj _ _ a b la lb _ (List.replicate 256 0) rfl) (by intro p hp;cases dr.1 hp;rfl) ?_)|refine cP (qt _) ?_|refine sB ?_|apply xX<;>intro hc|refine⟨oD,?_⟩|exact oD|fail
  all_goals simp only[pk,uR,hva,hvb,db,if_true]
  all_goals (split<;>simp)
end Go.Proofs.YtfdjchnefpefbaaGreatDoor
namespace Go.Proofs.YtfdjchnefpefbaaGreatDoor
open Go Go.Dom
set_option maxRecDepth 100000
set_option maxHeartbeats 16000000
def wl (l:List Nat):List PV:=l.map fun n:Nat=>PV.i .u32 n
theorem NG (l:List Nat):List.map AV.v (wl l)=aq .u32 l:=by simp[wl,aq]
theorem o5 (l:List Nat):(wl l).length=l.length:=aE ..
theorem iX {g:AV->Option PV} (hg: ∀n:Nat,g (.v (.i .u32 (n:Int)))=some (.i .u32 n)) (l:List Nat):aQ g (aq .u32 l)=some (wl l):=by
 unfold aq wl
 induction l with
 |nil=>rfl
 |cons x l ih=>rw[aS,aS,aQ,hg,ih]
theorem Wa: ∀n:Fin 32,0<n.val->lk .u64 (IntKind.u64.wrap (-(n.val:Int))) 31=((32-n.val:Nat):Int):=by decide+kernel
theorem So (x n:Nat) (h0:0<n) (h:n<32):aA Tryz.prog 487 [.i .u32 x,E (-(n:Int))] (.i .u32 (rr x n)):=by
 have e1:=Wa ⟨n,h⟩ h0;simp only at e1;have e2: ∀ _:True,(if 32-n<=32 then 32-n else 32)=32-n:=fun _=>if_pos oO
 have e3: ∀ _:True,(32:Int)-((32-n:Nat):Int)=(n:Int):=fun _=>by omega
 have e4: ∀ _:True,(if n<=32 then n else 32)=n:=fun _=>if_pos oO
 refine eW Tryz.call487 Tryz.func487 ?_;repeat' first|simp only[go_sem,seval,e1,e2 trivial,e3 trivial,e4 trivial,V5,YW]|refine sB ?_|apply xX<;>intro hc|refine⟨oD,?_⟩|exact oD|fail
 rw[rr,L5]
theorem j2 (x n:Nat) (h0:0<n) (h:n<32):aA Tryz.prog 481 [.i .u32 x,E n] (.i .u32 (rr x n)):=by
 have hr:=So x n h0 h;have e:(0:Int)-(n:Int)= -(n:Int):=by omega
 refine eW Tryz.call481 Tryz.func481 ?_;exact o7 @e @hr
theorem Lh:aA Tryz.prog 456 [] (.agg (wl np)):=by
 refine eW Tryz.call456 Tryz.func456 ?_;exact z0
theorem AK:aA Tryz.prog 479 [] (.agg (wl om)):=by
 refine eW Tryz.call479 Tryz.func479 ?_;exact z0
theorem Xj (a b c d:UInt8):zX (zX (zX (uB a.toNat 24) (uB b.toNat 16)) (uB c.toNat 8)) d.toNat=num [a,b,c,d]:=by
 have ha:=a.toNat_lt;have hb:=b.toNat_lt;have hc:=c.toNat_lt;have hd:=d.toNat_lt;have e1:uB a.toNat 24=a.toNat*2^24:=by unfold uB;omega
 have e2:uB b.toNat 16=b.toNat*2^16:=by unfold uB;omega
 have e3:uB c.toNat 8=c.toNat*2^8:=by unfold uB;omega
 have f1:zX (uB a.toNat 24) (uB b.toNat 16)=a.toNat*2^24+b.toNat*2^16:=by
  rw[zX,e1,e2,aV oO,aV oO,DC oO]
 have f2:zX (zX (uB a.toNat 24) (uB b.toNat 16)) (uB c.toNat 8)=(a.toNat*2^8+b.toNat)*2^16+c.toNat*2^8:=by
  rw[zX,f1,e3,aV oO,aV oO,show a.toNat*2^24+b.toNat*2^16=(a.toNat*2^8+b.toNat)*2^16 by omega,DC oO]
 rw[zX,f2,aV oO,aV oO,show(a.toNat*2^8+b.toNat)*2^16+c.toNat*2^8=((a.toNat*2^8+b.toNat)*2^8+c.toNat)*2^8 by omega,DC oO]
 simp[num];omega
theorem four (l:Bytes) {i:Nat} (h:4*i+4<=l.length): ∃a b c d,(l.drop (4*i)).take 4=[a,b,c,d]/\((l.map u8).take (4*i+4)).drop (4*i)=[u8 a,u8 b,u8 c,u8 d]:=by
 have hl:((l.drop (4*i)).take 4).length=4:=by simp;omega
 have e:((l.map u8).take (4*i+4)).drop (4*i)=((l.drop (4*i)).take 4).map u8:=by
  rw[<-pP,<-sR,sF];congr 2;omega
 generalize (l.drop (4*i)).take 4=m at hl e
 match m,hl with
 |[a,b,c,d],_=>exact⟨a,b,c,d,rfl,e⟩
theorem YU (a:Nat):IntKind.u32.wrap ((a:Int)*16777216)=((uB a 24:Nat):Int):=V5 a 24
theorem YT (a:Nat):IntKind.u32.wrap ((a:Int)*65536)=((uB a 16:Nat):Int):=V5 a 16
theorem mk8 (a:Nat):IntKind.u32.wrap ((a:Int)*256)=((uB a 8:Nat):Int):=V5 a 8
theorem Xd (c:UInt8):IntKind.u32.wrap ((c.toNat:Nat):Int)=((c.toNat:Nat):Int):=by
 have:=c.toNat_lt;rw[JF];omega
theorem BG (l:List Nat) (n x:Nat) (h:l.length<n):(l++List.replicate (n-l.length) 0).set l.length x=(l++[x])++List.replicate (n-(l++[x]).length) 0:=by
 obtain⟨k,hk⟩: ∃k,n-l.length=k+1:=⟨n-l.length-1,by omega⟩
 rw[hk,List.replicate_succ,B8 _ _ (an _),eE,List.set_cons_zero];have:n-(l++[x]).length=k:=by simp;omega
 rw[this];simp
theorem Dh (l:List Nat) (k i:Nat) (h:i<l.length):(l++List.replicate k 0).getD i 0=l.getD i 0:=by
 simp[aR,sS h]
def zz (n:Nat):List Nat:=List.replicate n 0
theorem HQ:(aq .u32 (zz 64)).length=64:=by rw[aP];rfl
theorem D5 {blk:Bytes} (hb:blk.length=64):aA Tryz.prog 480 [.sl (blk.map u8)] (.agg (wl (sched blk))):=by
 have lb:(blk.map u8).length=64:=by rw[aE,hb]
 refine eW Tryz.call480 Tryz.func480 ?_;refine uZ ?_;refine af (α:=List Nat) (fun l=>16-l.length) (fun l=>⟨[(0, .v (.sl (blk.map u8))),(2, .p 1000 0 0),(3, .p 1001 0 0),(9,E' l.length)],[(1000,⟨0,aq .u32 (zz 64),false,some 484⟩),(1001,⟨0,aq .u32 (l++List.replicate (64-l.length) 0),false,some 484⟩)],_⟩) (fun l=>l.length<=16/\l=(List.range l.length).map (uV blk)) [] (fun _=>an _) ⟨by decide,rfl⟩ ?_ ?_
 ·refine lG ?_;all_goals exact⟨rfl,rfl⟩
 ·rintro l ⟨hl,he⟩ R hR;have hL:(aq .u32 (l++List.replicate (64-l.length) 0)).length=64:=by rw[aP];simp;omega
  obtain⟨i,hi⟩: ∃i,i=l.length:=⟨_,rfl⟩
  by_cases hlt:l.length<16
  ·obtain⟨a,b,c,d,h4,h5⟩:=four blk (i:=i) oO;have hV:uV blk i=zX (zX (zX (uB a.toNat 24) (uB b.toNat 16)) (uB c.toNat 8)) d.toNat:=by rw[Xj,uV,h4]
   have hgo:=hR (l++[uV blk i]) ⟨by simp;omega,by
    rw[bm,List.length_singleton,nR,dD,<-he,<-hi];rfl⟩ (by simp;omega)
   have hse:=BG l 64 (uV blk i) oO;rw[hV]at hgo hse;have t1: ∀ _:True,((4:Int)*(i:Int)).toNat=4*i:=fun _=>by omega
   have t2: ∀ _:True,((4:Int)*(i:Int)+4).toNat=4*i+4:=fun _=>by omega
   have hcl: ∀x∈blk.map u8,x.cells.length=1:=fun x hx=>by obtain⟨c,-,rfl⟩:=bw.1 hx;rfl
   rw[<-hi]at hL⊢;clear hR he h4 hV;repeat' first|simp only[go_sem,seval,lb,hL,t1 trivial,t2 trivial,h5,YU,YT,mk8,Xd,YW]|refine sB ?_|apply xX<;>intro hc|refine⟨oD,?_⟩|exact oD|fail
   refine⟨⟨by omega,hcl⟩,by omega,by omega,?_⟩
   refine wC ?_;refine hgo _ ?_;rw[<-hi]at hse;rw[dx (x:=zX (zX (zX (uB a.toNat 24) (uB b.toNat 16)) (uB c.toNat 8)) d.toNat) (by rw[aP]at hL;omega) rfl,hse]
   (refine AS.Le.of (by first|decide|omega) ?_ ?_<;>simp[dM,dL,aK,aj,AV.bd,AV.bd.bdL,u8,ai,ak,ar])
   all_goals first|omega|skip
  ·have hl16:l.length=16:=by omega
   have hs0:l=(List.range 16).map (uV blk):=by rw[<-hl16];exact he
   rw[hl16];rw[hl16]at hL;clear hR he hlt hl hi;refine uZ ?_;refine af (α:=List Nat) (fun l=>64-l.length) (fun l=>⟨[(2, .p 1000 0 0),(3, .p 1001 0 0),(6,E' l.length)],[(1000,⟨0,aq .u32 (zz 64),false,some 484⟩),(1001,⟨0,aq .u32 (l++List.replicate (64-l.length) 0),false,some 484⟩)],_⟩) (fun l=>16<=l.length/\l.length<=64/\Jq (64-l.length) l=sched blk) l (fun _=>an _) ⟨by omega,by omega,by rw[hl16,hs0];rfl⟩ ?_ ?_
   ·rw[hl16];exact lE
   ·clear hs0 hL hl16 i l;rintro l ⟨hl1,hl2,he⟩ R hR;have hL:(aq .u32 (l++List.replicate (64-l.length) 0)).length=64:=by rw[aP];simp;omega
    obtain⟨i,hi⟩: ∃i,i=l.length:=⟨_,rfl⟩
    by_cases hlt:l.length<64
    ·have hgo:=hR (l++[BI l]) ⟨by simp;omega,by simp;omega,by
      have:64-l.length=(64-(l++[BI l]).length)+1:=by simp;omega
      rw[this]at he;exact he⟩ (by simp;omega)
     have hse:=BG l 64 (BI l) hlt;have hg: ∀k:Nat,0<k->k<=16->(aq .u32 (l++List.replicate (64-l.length) 0)).getD ((i:Int)-(k:Int)).toNat .u= .v (.i .u32 (l.getD (i-k) 0:Nat)):=fun k h0 h1=>by
      rw[show((i:Int)-(k:Int)).toNat=i-k by omega,cH (by simp;omega),Dh l _ _ oO]
     have g15:(aq .u32 (l++List.replicate (64-l.length) 0)).getD ((i:Int)-15).toNat .u= _:=hg 15 oC oC;have g2:(aq .u32 (l++List.replicate (64-l.length) 0)).getD ((i:Int)-2).toNat .u= _:=hg 2 oC oC;have g16:(aq .u32 (l++List.replicate (64-l.length) 0)).getD ((i:Int)-16).toNat .u= _:=hg 16 oC oC;have g7:(aq .u32 (l++List.replicate (64-l.length) 0)).getD ((i:Int)-7).toNat .u= _:=hg 7 oC oC;have hN:BI l=ad (ad (ad (l.getD (i-16) 0) (ot (ot (rr (l.getD (i-15) 0) 7) (rr (l.getD (i-15) 0) 18)) (l.getD (i-15) 0/8))) (l.getD (i-7) 0)) (ot (ot (rr (l.getD (i-2) 0) 17) (rr (l.getD (i-2) 0) 19)) (l.getD (i-2) 0/1024)):=by rw[hi];rfl
     rw[hN]at hgo hse;rw[<-hi]at hL hse g15 g2 g16 g7⊢;clear hR he hN hg;generalize l.getD (i-16) 0=w16 at*;generalize l.getD (i-15) 0=w15 at*;generalize l.getD (i-7) 0=w7 at*;generalize l.getD (i-2) 0=w2 at*;have r7:=j2 w15 7 oC oC;have r18:=j2 w15 18 oC oC;have r17:=j2 w2 17 oC oC;have r19:=j2 w2 19 oC oC;repeat' first|simp only[go_sem,seval,hL,g15,g2,g16,g7,ow,Ve]|refine cP r7 ?_|refine cP r18 ?_|refine cP r17 ?_|refine cP r19 ?_|refine sB ?_|apply xX<;>intro hc|refine⟨oD,?_⟩|exact oD|fail
     refine hgo _ ?_;rw[dx (x:=ad (ad (ad w16 (ot (ot (rr w15 7) (rr w15 18)) (w15/8))) w7) (ot (ot (rr w2 17) (rr w2 19)) (w2/1024))) (by rw[aP]at hL;omega) rfl,hse]
     (refine AS.Le.of (by first|decide|omega) ?_ ?_<;>simp[dM,dL,aK,aj,AV.bd,AV.bd.bdL,u8,ai,ak,ar])
     all_goals first|omega|skip
    ·have hl64:l.length=64:=by omega
     rw[hl64]at he hi hL⊢;have he:l=sched blk:=he;rw[eE,List.replicate_zero,jQ]at hL⊢;rw[<-he];have k1:List.take 64 (aq .u32 l)=aq .u32 l:=cd (by rw[aP];omega)
     have k2:List.drop 64 (aq .u32 (zz 64))=[]:=iO (by rw[HQ];decide)
     have k3:(wl l).length=64:=by rw[o5,hl64]
     repeat' first|simp only[go_sem,seval,hL,k1,k2,k3,iX,NG,HQ]|refine sB ?_|apply xX<;>intro hc|refine⟨oD,?_⟩|exact oD|fail
     all_goals skip
theorem Va {l:List Nat} (h:l.length=8): ∃a b c d e f g i,l=[a,b,c,d,e,f,g,i]:=by
 match l,h with
 |[a,b,c,d,e,f,g,i],_=>exact⟨_,_,_,_,_,_,_,_,rfl⟩
theorem Xz (a b c d e f g h:Nat):aq .u32 [a,b,c,d,e,f,g,h]=[.v (.i .u32 (a:Int)), .v (.i .u32 (b:Int)), .v (.i .u32 (c:Int)), .v (.i .u32 (d:Int)), .v (.i .u32 (e:Int)), .v (.i .u32 (f:Int)), .v (.i .u32 (g:Int)), .v (.i .u32 (h:Int))]:=rfl
theorem RG (k w a b c d e f g h:Nat):Nh k w [a,b,c,d,e,f,g,h]=[ad (Nj k w [a,b,c,d,e,f,g,h]) (UL [a,b,c,d,e,f,g,h]),a,b,c,ad d (Nj k w [a,b,c,d,e,f,g,h]),e,f,g]:=rfl
theorem RH (k w a b c d e f g h:Nat):Nj k w [a,b,c,d,e,f,g,h]=ad (ad (ad (ad h (ot (ot (rr e 6) (rr e 11)) (rr e 25))) (ot (JM e f) (JM (V8 e) g))) k) w:=rfl
theorem RI (a b c d e f g h:Nat):UL [a,b,c,d,e,f,g,h]=ad (ot (ot (rr a 2) (rr a 13)) (rr a 22)) (ot (ot (JM a b) (JM a c)) (JM b c)):=rfl
theorem TI (e:Nat):IntKind.u32.wrap ((@BitVec.toNat 32 (@HXor.hXor (BitVec 32) (BitVec 32) (BitVec 32) (@instHXorOfXorOp (BitVec (IntKind.bits .u32)) (@BitVec.instXorOp (IntKind.bits .u32))) (BitVec.ofInt 32 (if IntKind.u32.signed=true then-1 else IntKind.u32.max)) (BitVec.ofNat 32 e)):Nat):Int)=((V8 e:Nat):Int):=by
 have h:=n_r e;rw[fC]at h;exact h
theorem J5 {st:List Nat} (hs:st.length=8) {blk:Bytes} (hb:blk.length=64):aA Tryz.prog 457 [.agg (wl st), .sl (blk.map u8)] (.agg (wl (pV st blk))):=by
 have hc:=AK;have hd:=D5 hb;have k0:(wl st).length=8:=by rw[o5,hs]
 have k1:(wl om).length=64:=rfl;have k2:(wl (sched blk)).length=64:=by rw[o5,kU]
 have k3:(aq .u32 st).length=8:=by rw[aP,hs]
 have k4:List.take 64 (aq .u32 (sched blk))=aq .u32 (sched blk):=cd (by rw[aP,kU];omega)
 have k5:List.take 64 (aq .u32 om)=aq .u32 om:=cd (by rw[aP];decide)
 have k6:List.take 8 (aq .u32 st)=aq .u32 st:=cd (by rw[aP];omega)
 have k7:(aq .u32 (sched blk)).length=64:=by rw[aP,kU]
 have k8:(aq .u32 om).length=64:=by rw[aP];rfl
 refine eW Tryz.call457 Tryz.func457 ?_;repeat' first|simp only[go_sem,seval,k0,k1,k2,k3,k4,k5,k6,k7,k8,NG,iX]|refine cP hc ?_|refine cP hd ?_|refine sB ?_|apply xX<;>intro hc|refine⟨oD,?_⟩|exact oD|fail
 refine af (α:=List Nat×Nat) (fun p=>64-p.2) (fun p=>⟨[(2, .p 1000 0 0),(4, .p 1001 0 0),(5, .p 1005 0 0),(6, .p 1006 0 0),(7, .p 1010 0 0),(22,E' p.2)],[(1000,⟨0,aq .u32 st,false,none⟩),(1001,⟨0,[.v (.i .u32 0), .v (.i .u32 0), .v (.i .u32 0), .v (.i .u32 0), .v (.i .u32 0), .v (.i .u32 0), .v (.i .u32 0), .v (.i .u32 0)],false,some 462⟩),(1005,⟨0,aq .u32 om,false,some 484⟩),(1006,⟨0,aq .u32 (sched blk),false,some 484⟩),(1010,⟨0,aq .u32 p.1,false,some 462⟩)],_⟩) (fun p=>p.1.length=8/\p.2<=64/\ue (sched blk) (64-p.2) p.1=ue (sched blk) 64 st) (st,0) (fun _=>an _) ⟨hs,aH _,rfl⟩ ?_ ?_
 ·exact lE
 ·rintro⟨v,i⟩ ⟨hv,hi,he⟩ R hR;obtain⟨a,b,c,d,e,f,g,h,rfl⟩:=Va hv
  by_cases hlt:i<64
  ·have hgo:=hR (Nh (om.getD i 0) ((sched blk).getD i 0) [a,b,c,d,e,f,g,h],i+1) ⟨rfl,hlt,by
    rw[show 64-i=(64-(i+1))+1 by omega,ue,show 63-(64-(i+1))=i by omega]at he;exact he⟩ (by simp;omega)
   have gk:(aq .u32 om).getD i .u= .v (.i .u32 (om.getD i 0:Nat)):=cH (by exact hlt)
   have gw:(aq .u32 (sched blk)).getD i .u= .v (.i .u32 ((sched blk).getD i 0:Nat)):=cH (by rw[kU];exact hlt)
   have r6:=j2 e 6 oC oC;have r11:=j2 e 11 oC oC;have r25:=j2 e 25 oC oC;have r2:=j2 a 2 oC oC;have r13:=j2 a 13 oC oC;have r22:=j2 a 22 oC oC;simp only[RG,RH,RI,Xz]at hgo⊢;generalize om.getD i 0=ki at hgo gk;generalize (sched blk).getD i 0=wi at hgo gw;clear hR he hv;repeat' first|simp only[go_sem,seval,k7,k8,gk,gw,ow,Ve,Xy,TI]|refine cP r6 ?_|refine cP r11 ?_|refine cP r25 ?_|refine cP r2 ?_|refine cP r13 ?_|refine cP r22 ?_|refine sB ?_|apply xX<;>intro hc|refine⟨oD,?_⟩|exact oD|fail
   refine hgo _ ?_
   (refine AS.Le.of (by first|decide|omega) ?_ ?_<;>simp[dM,dL,aK,aj,AV.bd,AV.bd.bdL,u8,ai,ak,ar])
   all_goals first|omega|(erw [TI e];simp only[Xy,Ve,ow,and_self])
  ·have hl:i=64:=by omega
   subst hl;have he:[a,b,c,d,e,f,g,h]=ue (sched blk) 64 st:=he;have hw:pV st blk=List.zipWith ad [a,b,c,d,e,f,g,h] st:=by rw[pV,<-he]
   rw[hw];clear hR he hv hw;obtain⟨s0,s1,s2,s3,s4,s5,s6,s7,rfl⟩:=Va hs;simp only[Xz];repeat' first|simp only[go_sem,seval,k7,k8,ow]|refine sB ?_|apply xX<;>intro hc|refine⟨oD,?_⟩|exact oD|fail
   all_goals refine ah ?_
   repeat' first|simp only[go_sem,seval,k7,k8,ow]|refine sB ?_|apply xX<;>intro hc|refine⟨oD,?_⟩|exact oD|fail
   all_goals refine ah ?_
   repeat' first|simp only[go_sem,seval,k7,k8,ow]|refine sB ?_|apply xX<;>intro hc|refine⟨oD,?_⟩|exact oD|fail
   all_goals refine ah ?_
   repeat' first|simp only[go_sem,seval,k7,k8,ow]|refine sB ?_|apply xX<;>intro hc|refine⟨oD,?_⟩|exact oD|fail
   all_goals refine ah ?_
   repeat' first|simp only[go_sem,seval,k7,k8,ow]|refine sB ?_|apply xX<;>intro hc|refine⟨oD,?_⟩|exact oD|fail
   all_goals refine ah ?_
   repeat' first|simp only[go_sem,seval,k7,k8,ow]|refine sB ?_|apply xX<;>intro hc|refine⟨oD,?_⟩|exact oD|fail
   all_goals refine ah ?_
   repeat' first|simp only[go_sem,seval,k7,k8,ow]|refine sB ?_|apply xX<;>intro hc|refine⟨oD,?_⟩|exact oD|fail
   all_goals refine ah ?_
   repeat' first|simp only[go_sem,seval,k7,k8,ow]|refine sB ?_|apply xX<;>intro hc|refine⟨oD,?_⟩|exact oD|fail
   all_goals refine ah ?_
   repeat' first|simp only[go_sem,seval,k7,k8,ow]|refine sB ?_|apply xX<;>intro hc|refine⟨oD,?_⟩|exact oD|fail
   all_goals refine ah ?_
   repeat' first|simp only[go_sem,seval,k7,k8,ow]|refine sB ?_|apply xX<;>intro hc|refine⟨oD,?_⟩|exact oD|fail
   all_goals rfl
end Go.Proofs.YtfdjchnefpefbaaGreatDoor
