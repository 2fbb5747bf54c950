/- Part of the proof. -/
import Derived.Lib.Bytealg
import Derived.Test.YthlapgdhjcddkaaGreatDoorUF17
import Derived.Lib.Mul64
import Derived.Lib.TrailingZeros
set_option linter.all false
set_option maxHeartbeats 4000000
set_option maxRecDepth 100000
namespace Go.Proofs.Tryz
open Go Go.Dom
theorem u8z {c:UInt8} (h:(c.toNat:Int)=0):c=0:=kP.1 (by simpa using h)
theorem acT {c:UInt8} (h:(c.toNat:Int)≠0):c≠0:=fun e=>by subst e;simp at h
abbrev E (n:Int):PV:= .i .i64 n
theorem R9 (c:UInt8):(u8 c).byte=c:=by simp[u8,PV.byte]
theorem zK (l:Bytes):(l.map u8).map PV.byte=l:=by induction l<;>simp_all[R9]
theorem wF {l:Bytes} {y:PV} (h:y∈l.map u8):y.isByte:=by
 obtain⟨c,_,rfl⟩:=cx.1 h;trivial
theorem zN {l:Bytes} {y:PV} (h:y∈l.map u8):y.cells.length=1:=by
 obtain⟨c,_,rfl⟩:=cx.1 h;rfl
theorem xj (a:Bytes):ae a=(decide ((a.length:Int)<=128)&&(((a.length:Int)==0)||(((a.getD 0 0).toNat:Int) !=0))):=by
 unfold ae;have h1:decide ((a.length:Int)<=128)=decide (a.length<=128):=by simp;omega
 have h2:((a.length:Int)==0)=(a.length==0):=by rw[cu];simp only[fK];omega
 have h3:(((a.getD 0 0).toNat:Int) !=0)=(a.headD 0 !=0):=by
  cases a with
  |nil=>rfl
  |cons x r=>
   have:x.toNat=0↔x=0:=by
    constructor
    ·intro h;exact kP.1 h
    ·intro h;subst h;rfl
   rw[cu];simp[this]
 rw[h1,h2,h3]
theorem aX (a:Bytes):aH 30 [.s a] (.b (ae a)):=by
 rw[xj];refine eW call30 func30 ?_;repeat' first|simp only[go_sem,seval]|refine oE ?_|apply xX<;>intro hc
 all_goals simp_all
 all_goals omega
theorem lu (l:Bytes):aH 60 [.sl (l.map u8)] (.s (gp l)):=by
 refine eW call60 func60 ?_;simp only[go_sem,seval];refine ah (α:=Bytes) List.length (fun x=>⟨[(0, .v (.sl (x.map u8)))],[],_⟩) (fun x=>gp x=gp l) l (fun _=>aA _) rfl ?_ ?_
 ·refine AS.Le.of (aA _) ⟨rfl,rfl,trivial⟩ trivial
 ·intro x hx R hR
  cases x with
  |nil=>
   refine ye ?_;rw[<-hx];rfl
  |cons c r=>
   repeat' first|simp only[go_sem,seval]|refine oE ?_|apply xX<;>intro hc
   ·refine⟨⟨oO,fun x hx=>zN hx⟩,hR r ?_ (sC _) _ (AS.Le.of oC ⟨rfl,rfl,trivial⟩ trivial)⟩
    rw[<-hx,gp,af (u8z hc)]
   ·refine⟨fun y hy=>wF hy,?_⟩
    rw[<-hx,gp,aa (acT hc)];rw[zK]
theorem tu (a:Bytes):aH 282 [.s a] (.tup [.s (if a.length<=128 then a else[]),E (if a.length<=128 then 0 else 5)]):=by
 refine eW call282 func282 ?_;repeat' first|simp only[go_sem,seval]|refine oE ?_|apply xX<;>intro hc
 ·have h: ¬a.length<=128:=oO;simp[h]
 ·have h:a.length<=128:=oO;simp[h]
theorem mw (a:Bytes) (i:Nat) (ha:a.length<4611686018427387904):aH 291 [.s a,E i] (E ((num a/256^i%256:Nat):Int)):=by
 refine eW call291 func291 ?_;repeat' first|simp only[go_sem,seval]|refine oE ?_|apply xX<;>intro hc
 ·rw[tG a oO];rfl
 ·have h:=wM a (i:=i) oO;rw[<-h,show((a.length:Int)-1-(i:Int)).toNat=a.length-1-i by omega]
  have:=(a.getD (a.length-1-i) 0).toNat_lt;rw[IntWalk.i64_in _ oO]
theorem N8 (x:Int):aH 315 [E x] (.b false):=by
 refine eW call315 func315 ?_;simp only[go_sem,seval];simp
theorem Kv (x y:Int):aH 244 [E x,E y] (E (if x<y then-1 else if y<x then 1 else 0)):=by
 refine eW call244 func244 ?_;repeat' first|simp only[go_sem,seval]|refine cP (N8 _) ?_|refine oE ?_|apply xX<;>intro hc
 all_goals (simp_all<;>omega)
theorem Kw (a b:Bytes):EvX prog 355 [.s a, .s b] (E (Lib.compareBytes a b)):=by
 intro rd vs w hv;obtain⟨x,us,rfl,hx,hv⟩:=hv.gv;obtain⟨y,us,rfl,hy,hv⟩:=hv.gv;obtain rfl:=hv.eE
 cases hx;cases hy
 have h1:(Tryz.f355.name== "runtime.NumGoroutine")=false:=by kernel_rfl
 have h2:Tryz.f355.body.isNone=true:=by kernel_rfl
 have h3:(Extern.findNext Tryz.f355).isNone=true:=by kernel_rfl
 have h4:Extern.find Tryz.f355=some Extern.BytealgCompare.compare:=by kernel_rfl
 have h3':Extern.findNext Tryz.f355=none:=by simpa using h3
 refine⟨.int .i64 (Lib.compareBytes a b),?_, .i _ _⟩;simp only[callFunc,bI,run_program,Result.andThen,func355,h1,h2,h3',h4,aC,cE,aB];have:=Lib.run_compareString (P:=prog) ⟨a.toArray⟩ ⟨b.toArray⟩ w;simp only[List.toList_toArray]at this;simp[this]
theorem BH (a b:Bytes):aH 316 [.s a, .s b] (E (Lib.compareBytes a b)):=by
 refine eW call316 func316 ?_;repeat' first|simp only[go_sem,seval]|(refine Vu (Kw _ _) rfl ?_)|refine oE ?_|apply xX<;>intro hc
theorem BP (a b:Bytes):aH 245 [.s a, .s b] (E (Lib.compareBytes a b)):=by
 refine eW call245 func245 ?_;repeat' first|simp only[go_sem,seval]|refine cP (BH _ _) ?_|refine oE ?_|apply xX<;>intro hc
def a7 (a b:Nat):Int:=if a<b then-1 else if b<a then 1 else 0
theorem kY: ∀{a b:Bytes},a.length=b.length->Lib.compareBytes a b=a7 (num a) (num b)
 |[],[],_=>rfl
 |x::r,y::s,h=>by
  have hl:r.length=s.length:=by simpa using h
  have ih:=kY hl;have h1:=xC x y hl;have h2:=xC y x hl.symm;have e1:x<y↔x.toNat<y.toNat:=yH;have e2:y<x↔y.toNat<x.toNat:=yH;simp only[Lib.compareBytes,a7,h1,h2,e1,e2,ih];rcases yT x.toNat y.toNat with h|h|h
  ·simp[h]
  ·have:x=y:=kP.1 h;subst this;simp
  ·have hne: ¬x=y:=fun e=>by subst e;omega
   simp[h,Nat.lt_asymm h,hne]
theorem pQ {a b:Bytes} (ha:Canon a) (hb:Canon b):aH 151 [.s a, .s b] (E (a7 (num a) (num b))):=by
 refine eW call151 func151 ?_;repeat' first|simp only[go_sem,seval]|refine cP (Kv _ _) ?_|refine cP (BP _ _) ?_|refine oE ?_|apply xX<;>intro hc
 ·congr 1;refine kY ?_
  split at hc
  ·simp at hc
  ·split at hc
   ·simp at hc
   ·omega
 ·congr 1;unfold a7
  split at hc
  ·have:=ji (a:=a) hb oO;simp_all
  ·split at hc
   ·have:=ji (a:=b) ha oO;rename_i g1 g2;rw[aa g1,af g2,aa oO,af oO]
   ·simp at hc
theorem nk (a b:Bytes):aH 72 [.s a, .s b] (E (if ae a&&ae b then a7 (num a) (num b)else 0)):=by
 refine eW call72 func72 ?_;repeat' first|simp only[go_sem,seval]|refine cP (aX _) ?_|(refine fX (pQ (bJ (by assumption)) (bJ (by assumption))) rfl ?_)|refine oE ?_|apply xX<;>intro hc
 all_goals simp_all
theorem lV {a:Bytes} {i:Nat} (h:i<a.length):num (a.take (i+1))=num (a.take i)*256+(a.getD i 0).toNat:=by
 rw[J6 h,Gf];simp[bu,h]
theorem pk (a:Bytes):aH 280 [.s a] (.tup [.i .u64 (if ae a&&decide (a.length<=8)then num a else 0), .b (ae a&&decide (a.length<=8))]):=by
 refine eW call280 func280 ?_;repeat' first|simp only[go_sem,seval]|refine cP (aX _) ?_|refine oE ?_|apply xX<;>intro hc
 rotate_right
 ·simp_all
 ·have: ¬a.length<=8:=oO;simp[this]
 ·have h8:a.length<=8:=oO;refine ah (α:=Nat) (fun i=>a.length-i) (fun i=>⟨[(0, .v (.s a)),(4, .v (.i .u64 (num (a.take i)))),(15, .v (.i .i64 a.length)),(16, .v (.i .i64 i))],[],1014⟩) (fun i=>i<=a.length) 0 (fun _=>aA _) (aD _) ?_ ?_
  ·(refine AS.Le.of (by first|decide|omega) ?_ ?_<;>simp[cU,cT,aO,az,AV.bd,AV.bd.bdL,u8,aj,ak,an]);rfl
  ·intro i hi R hR
   by_cases hlt:i<a.length
   ·refine ye ?_;refine hR (i+1) oO oO _ ?_;have h1:=lV hlt;have h2:num (a.take i)<72057594037927936:=by
     refine bM (cO _) (fw (dp oC (?_: _<=7)) oC);simp;omega
    have h3:=(a.getD i 0).toNat_lt;rw[show((num (a.take i):Int)*256)=((num (a.take i)*256:Nat):Int) by simp]
    rw[IntWalk.u64_in _ oO,IntWalk.u64_in _ oO,WR .u64 rfl (by show _<18446744073709551616;omega) (by show _<18446744073709551616;omega),Gk (k:=8) oO]
    (refine AS.Le.of (by first|decide|omega) ?_ ?_<;>simp[cU,cT,aO,az,AV.bd,AV.bd.bdL,u8,aj,ak,an])
    rw[h1];simp
   ·refine ye ?_;rw[cQ oO];simp[*]
theorem iC (n:Nat) (hn:n<18446744073709551616):aH 24 [.i .u64 n] (.s (b7 n)):=by
 refine eW call24 func24 ?_;simp only[go_sem,seval];refine ah (α:=Nat) (fun i=>8-i) (fun i=>⟨[(0, .v (.i .u64 n)),(3, .p 1001 0 0),(5, .v (.i .i64 i))],[(1001,⟨0,aM (List.replicate (8-i) 0++be i n),false,some 123⟩)],1003⟩) (fun i=>i<=8) 0 (fun _=>aA _) (aD _) ?_ ?_
 ·(refine AS.Le.of (by first|decide|omega) ?_ ?_<;>simp[cU,cT,aO,az,AV.bd,AV.bd.bdL,u8,aj,ak,an]);rfl
 ·intro i hi R hR;have hl:(List.replicate (8-i) (0:UInt8)++be i n).length=8:=by simp[cX];omega
  by_cases hlt:i<8
  ·refine dw @hl ?_;refine hR (i+1) oO oO _ ?_;have e1:(8*(i:Int)).toNat=8*i:=oO;have e2:((7:Int)-i).toNat=8-1-i:=oO;have e3:IntKind.u8.wrap ((n/2^(8*i):Nat):Int)=((UInt8.ofNat (n/256^i)).toNat:Int):=by
    rw[l8,kR]
   rw[e1,e2,af oO,uh oO e3,iR hlt]
   (refine AS.Le.of (by first|decide|omega) ?_ ?_<;>simp[cU,cT,aO,az,AV.bd,AV.bd.bdL,u8,aj,ak,an]);rfl
  ·obtain rfl:i=8:=oO;have:=lu (be 8 n);have hl:(be 8 n).length=8:=cX 8 n;repeat' first|simp only[go_sem,seval,hl]|(refine iQ this rfl rfl hl.symm ?_)|refine oE ?_|apply xX<;>intro hc
   rw[kF oO]
def ek:Nat:=256^128
theorem ov {n:Nat}:(b7 n).length<=128↔n<ek:=lQ
def BE (a b:Bytes):Bytes×Int:=if ae a&&ae b then(if num a+num b<ek then(b7 (num a+num b),0)else([],5))else([],3)
theorem o5 (n:Nat):(List.replicate n [AV.v (PV.i IntKind.u8 0)]).flatten=aM (List.replicate n 0):=by
 induction n with
 |zero=>rfl
 |succ n ih=>simp[List.replicate_succ,aM,u8]at ih⊢
theorem pV (n i x:Nat) (h:i<=n):(List.replicate (n-i) (0:UInt8)++be i x).length=n:=by simp[cX];omega
theorem Vr (a b:Bytes):aH 204 [.s a, .s b] (.tup [.s (BE a b).1,E (BE a b).2]):=by
 have hmax:(if(b.length:Int)>(a.length:Int)then(b.length:Int)else(a.length:Int))=((max a.length b.length:Nat):Int):=by
  split<;>omega
 by_cases hv:ae a=true/\ae b=true
 case neg=>
  refine eW call204 func204 ?_;repeat' first|simp only[go_sem,seval]|refine cP (aX _) ?_|refine oE ?_|apply xX<;>intro hc
  all_goals simp_all[BE]
 obtain⟨hva,hvb⟩:=hv;have la:=eU hva;have lb:=eU hvb;obtain⟨n,hn⟩: ∃n,n=max a.length b.length+1:=⟨_,rfl⟩;have hn2:((max a.length b.length:Nat):Int)+1=(n:Int):=oO;refine eW call204 func204 ?_;repeat' first|simp only[go_sem,seval,hmax,hn2,o5]|refine cP (aX _) ?_|refine oE ?_|apply xX<;>intro hc
 refine ah (α:=Nat) (fun i=>n-i) (fun i=>⟨[(0, .v (.s a)),(1, .v (.s b)),(6, .v (.i .i64 n)),(7, .rs 1018 0 0 n 1),(8, .v (.i .i64 (carry (num a) (num b) (256^i)))),(26, .v (.i .i64 n)),(27, .v (.i .i64 i))],[(1018,⟨0,aM (List.replicate (n-i) 0++be i (num a+num b)),false,none⟩)],1023⟩) (fun i=>i<=n) 0 (fun _=>aA _) (aD _) ?_ ?_
 ·(refine AS.Le.of (by first|decide|omega) ?_ ?_<;>simp[cU,cT,aO,az,AV.bd,AV.bd.bdL,u8,aj,ak,an])
  ·simp[carry,mT]
  ·simp[be]
 ·intro i hi R hR;have hl:=pV n i (num a+num b) hi;have hp:=jU i;have hc1:=Fp (num a) (num b) hp
  by_cases hlt:i<n
  ·repeat' first|simp only[go_sem,seval,hl]|refine cP (mw a i oO) ?_|refine cP (mw b i oO) ?_|refine oE ?_|apply xX<;>intro hc
   refine hR (i+1) oO oO _ ?_;have e2:((n:Int)-1-i).toNat=n-1-i:=oO;have e0:((carry (num a) (num b) (256^i):Nat):Int)+(((num a/256^i%256:Nat):Int)+((num b/256^i%256:Nat):Int))=((carry (num a) (num b) (256^i)+(num a/256^i%256+num b/256^i%256):Nat):Int):=oO;rw[e0,e2,uh oO ((l8 _).trans (by rw[zL _ _ hp])),iR hlt,show(256:Int)=((256:Nat):Int)from rfl,Du,zM _ _ hp,<-Nat.pow_succ]
   (refine AS.Le.of (by first|decide|omega) ?_ ?_<;>simp[cU,cT,aO,az,AV.bd,AV.bd.bdL,u8,aj,ak,an]);rfl
  ·obtain rfl:i=n:=oO;have:=lu (be i (num a+num b));have hl:(be i (num a+num b)).length=i:=cX _ _;repeat' first|simp only[go_sem,seval,hl,gD,List.replicate_zero]|(refine iQ this rfl rfl hl.symm ?_)|refine cP (tu _) ?_|refine oE ?_|apply xX<;>intro hc
   have h1:num a+num b<256^i:=by
    have g1:=cO a;have g2:=cO b;have p1:256^a.length<=256^(i-1):=dp oC oO;have p2:256^b.length<=256^(i-1):=dp oC oO;have p3:256^i=256^(i-1)*256:=by rw[<-Nat.pow_succ];congr 1;omega
    omega
   rw[kF h1];simp only[ov,BE,hva,hvb,dF,aC]
   split<;>simp
theorem S1 (a b:Bytes) (ha:a.length<=128) (hb:b.length<=128) (h:num b<=num a):aH 290 [.s a, .s b] (.s (b7 (num a-num b))):=by
 obtain⟨n,hn⟩: ∃n,n=a.length:=⟨_,rfl⟩;refine eW call290 func290 ?_;simp only[go_sem,seval,<-hn];repeat' first|simp only[go_sem,seval,<-hn,o5]|refine oE ?_|apply xX<;>intro hc
 refine ah (α:=Nat) (fun i=>n-i) (fun i=>⟨[(0, .v (.s a)),(1, .v (.s b)),(5, .v (.i .i64 n)),(6, .rs 1005 0 0 n 1),(7, .v (.i .i64 (borrow (num a) (num b) (256^i)))),(14, .v (.i .i64 n)),(15, .v (.i .i64 i))],[(1005,⟨0,aM (List.replicate (n-i) 0++be i (num a-num b)),false,none⟩)],1010⟩) (fun i=>i<=n) 0 (fun _=>aA _) (aD _) ?_ ?_
 ·(refine AS.Le.of (by first|decide|omega) ?_ ?_<;>simp[cU,cT,aO,az,AV.bd,AV.bd.bdL,u8,aj,ak,an])
  ·simp[borrow,mT]
  ·simp[be]
 ·intro i hi R hR;have hl:=pV n i (num a-num b) hi;have hp:=jU i;have hc1:=B8 (num a) (num b) (256^i);have hb1:=xt (num a) (num b) hp;have hb2:=xr (num a) (num b) hp h;have e2:((n:Int)-1-i).toNat=n-1-i:=oO
  by_cases hlt:i<n
  ·repeat' first|simp only[go_sem,seval,hl]|refine cP (mw a i oO) ?_|refine cP (mw b i oO) ?_|refine oE ?_|apply xX<;>intro hc
   ·refine hR (i+1) oO oO _ ?_;rw[e2,uh (c:=UInt8.ofNat ((num a-num b)/256^i)) oO (by rw[YE,jd,<-hb2 _ rfl];omega),iR hlt]
    (refine AS.Le.of (by first|decide|omega) ?_ ?_<;>simp[cU,cT,aO,az,AV.bd,AV.bd.bdL,u8,aj,ak,an])
    ·rw[Nat.pow_succ,hb1,af hc];rfl
    ·rfl
   ·refine hR (i+1) oO oO _ ?_;rw[e2,uh (c:=UInt8.ofNat ((num a-num b)/256^i)) oO (by rw[YE,jd,<-hb2 _ rfl]),iR hlt]
    (refine AS.Le.of (by first|decide|omega) ?_ ?_<;>simp[cU,cT,aO,az,AV.bd,AV.bd.bdL,u8,aj,ak,an])
    ·rw[Nat.pow_succ,hb1,aa hc];rfl
    ·rfl
  ·obtain rfl:i=n:=oO;have:=lu (be i (num a-num b));have hl:(be i (num a-num b)).length=i:=cX _ _;repeat' first|simp only[go_sem,seval,hl,gD,List.replicate_zero]|(refine iQ this rfl rfl hl.symm ?_)|refine oE ?_|apply xX<;>intro hc
   have h1:num a-num b<256^i:=by have:=cO a;rw[hn];omega
   rw[kF h1]
def xc (a b:Bytes):Bytes×Int:=if ae a&&ae b then(if num b<=num a then(b7 (num a-num b),0)else([],2))else([],3)
theorem fZ {a b:Nat}:a7 a b<0↔a<b:=by unfold a7;split<;>(try split)<;>omega
theorem Mm (a b:Bytes):aH 202 [.s a, .s b] (.tup [.s (xc a b).1,E (xc a b).2]):=by
 by_cases hv:ae a=true/\ae b=true
 case neg=>
  refine eW call202 func202 ?_;repeat' first|simp only[go_sem,seval]|refine cP (aX _) ?_|refine oE ?_|apply xX<;>intro hc
  all_goals simp_all[xc]
 obtain⟨hva,hvb⟩:=hv;refine eW call202 func202 ?_;repeat' first|simp only[go_sem,seval]|refine cP (aX _) ?_|refine cP (pQ (bJ hva) (bJ hvb)) ?_|(refine fX (S1 _ _ (eU hva) (eU hvb) (by rw[fZ]at hc;omega)) rfl ?_)|refine oE ?_|apply xX<;>intro hc
 ·rw[fZ]at hc;simp[xc,hva,hvb,show¬num b<=num a by omega]
 ·rw[fZ]at hc;simp[xc,hva,hvb,show num b<=num a by omega]
theorem kB {x:Nat} (h:x<256):([0,1,2,2,3,3,3,3,4,4,4,4,4,4,4,4,5,5,5,5,5,5,5,5,5,5,5,5,5,5,5,5,6,6,6,6,6,6,6,6,6,6,6,6,6,6,6,6,6,6,6,6,6,6,6,6,6,6,6,6,6,6,6,6,7,7,7,7,7,7,7,7,7,7,7,7,7,7,7,7,7,7,7,7,7,7,7,7,7,7,7,7,7,7,7,7,7,7,7,7,7,7,7,7,7,7,7,7,7,7,7,7,7,7,7,7,7,7,7,7,7,7,7,7,7,7,7,7,8,8,8,8,8,8,8,8,8,8,8,8,8,8,8,8,8,8,8,8,8,8,8,8,8,8,8,8,8,8,8,8,8,8,8,8,8,8,8,8,8,8,8,8,8,8,8,8,8,8,8,8,8,8,8,8,8,8,8,8,8,8,8,8,8,8,8,8,8,8,8,8,8,8,8,8,8,8,8,8,8,8,8,8,8,8,8,8,8,8,8,8,8,8,8,8,8,8,8,8,8,8,8,8,8,8,8,8,8,8,8,8,8,8,8,8,8,8,8,8,8,8,8,8,8,8,8,8]:Bytes).getD x 0=UInt8.ofNat (Lib.bitLen x):=by
 revert x;decide+kernel
theorem kA {x:Nat} (h:x<256):Lib.bitLen x<=8:=Lib.bitLen_le x 8 oC oO
theorem len8_int {x:Nat} (h:x<256):(((UInt8.ofNat (Lib.bitLen x)).toNat:Nat):Int)=(Lib.bitLen x:Int):=by
 have:=kA h;rw[jd];omega
theorem IQ (x:Nat) (h:x<256):aH 352 [.i .u8 x] (E (Lib.bitLen x)):=by
 refine eW call352 func352 ?_;refine ye ?_;rw[kB h,len8_int h];have:=kA h;rw[IntWalk.i64_in _ oO]
theorem ou {x y k:Nat} (hy:y<256) (hk:k<=56) (h:Lib.bitLen x=k+Lib.bitLen y) {T:Bytes} (hT: ∀x,x<256->T.getD x 0=UInt8.ofNat (Lib.bitLen x)):
  (0<=IntKind.u8.wrap (y:Int)/\IntKind.u8.wrap (y:Int)<256)/\PV.i IntKind.i64 (IntKind.i64.wrap ((k:Int)+IntKind.i64.wrap ((T.getD (IntKind.u8.wrap (y:Int)).toNat 0).toNat:Int)))=E (Lib.bitLen x):=by
 have h8:=kA hy;rw[acY hy,Int.toNat_natCast,hT y hy,len8_int hy,IntWalk.i64_in (Lib.bitLen y:Int) oO,IntWalk.i64_in _ oO,h];refine⟨oO,?_⟩;simp
theorem Fa (x:Nat) (h:x<(2^64)):aH 389 [.i .u64 x] (E (Lib.bitLen x)):=by
 have g8:=Lib.bitLen_shift8;have g16:=Lib.bitLen_shift16;have g32:=Lib.bitLen_shift32;refine eW call389 func389 ?_;repeat' first|simp only[go_sem,seval]|refine oE ?_|apply xX<;>intro hc
 ·refine ou (k:=56) oO oC ?_ fun _=>kB
  rw[g32 x oO oO,g16 _ oO oO,g8 _ oO oO];omega
 ·refine ou (k:=48) oO oC ?_ fun _=>kB
  rw[g32 x oO oO,g16 _ oO oO];omega
 ·refine ou (k:=40) oO oC ?_ fun _=>kB
  rw[g32 x oO oO,g8 _ oO oO];omega
 ·refine ou (k:=32) oO oC ?_ fun _=>kB
  rw[g32 x oO oO]
 ·refine ou (k:=24) oO oC ?_ fun _=>kB
  rw[g16 x oO oO,g8 _ oO oO];omega
 ·refine ou (k:=16) oO oC ?_ fun _=>kB
  rw[g16 x oO oO]
 ·refine ou (k:=8) oO oC ?_ fun _=>kB
  rw[g8 x oO oO]
 ·refine ou (k:=0) oO oC ?_ fun _=>kB
  omega
theorem ua (x:Nat) (h:x<(2^64)):aH 382 [.i .u64 x] (E ((64-Lib.bitLen x:Nat):Int)):=by
 have h1:=Lib.bitLen_le x 64 oC h;refine eW call382 func382 ?_;repeat' first|simp only[go_sem,seval]|refine cP (Fa x h) ?_|refine oE ?_|apply xX<;>intro hc
 congr 1;omega
theorem uc (x y:Nat) (hx:x<(2^64)) (hy:y<(2^64)):aH 281 [.i .u64 x, .i .u64 y] (.tup [.i .u64 (x*y/(2^64):Nat), .i .u64 (x*y%(2^64):Nat)]):=by
 obtain⟨h1,h2,h3,h4⟩:=Lib.mul64_hi x y hx hy;refine eW call281 func281 ?_;simp only[go_sem,seval,uw,BL,uJ,AB,Iq,Ff,zE,Eb,Bm,Bk,tc];have hb:=Lib.half_mul_le (a:=x/4294967296) (b:=y%4294967296) oO oO;have ha:=Lib.half_mul_le (a:=x/4294967296) (b:=y/4294967296) oO oO;have hc:=Lib.half_mul_le (a:=x%4294967296) (b:=y/4294967296) oO oO;rw[<-h4];generalize x/4294967296*(y%4294967296)=b at*;generalize x/4294967296*(y/4294967296)=a at*;generalize x%4294967296*(y/4294967296)=c at*;generalize x%4294967296*(y%4294967296)=d at*;congr 4;omega
end Go.Proofs.Tryz
namespace Go.Proofs.Tryz
open Go Go.Dom
abbrev U (n:Nat):AV:= .v (.i .u64 n)
structure QT (hi lo y s Y V u:Nat):Prop where
 hy:0<y
 s64:s<64
 yl:9223372036854775808<=Y
 yh:Y<(2^64)
 hY:Y=y*2^s
 hV:V=lo*2^s%(2^64)
 hVl:V<(2^64)
 hil:u<Y
 eqn:(hi*(2^64)+lo)*2^s=u*(2^64)+V
 hyy:Y=Y/4294967296*4294967296+Y%4294967296
theorem QT.sub {hi lo y s Y V u:Nat} (D:QT hi lo y s Y V u) {z:Nat} (hz:z<(2^64)):(z+((2^64)-z/(Y/4294967296)*(Y/4294967296)%(2^64)))%(2^64)=z%(Y/4294967296):=by
 have g1:=jc z (Y/4294967296);have g2:=sA z (Y/4294967296);rw[cv]at g1;generalize z/(Y/4294967296)*(Y/4294967296)=k at g1 g2⊢;generalize z%(Y/4294967296)=l at g1⊢;omega
theorem QT.quo {hi lo y s Y V u:Nat} (D:QT hi lo y s Y V u) {z:Nat} (hz:z<(2^64)):z/(Y/4294967296)%(2^64)=z/(Y/4294967296):=bV (eR (fx _ _) hz)
structure zq (Y u t:Nat) (x:Nat×Nat):Prop where
 d:IL 4294967296 Y (Y/4294967296) (Y%4294967296) u t x.1 x.2
 r:x.2<4294967296
 q:x.1<(2^64)
theorem zq.start {hi lo y s Y V u:Nat} (D:QT hi lo y s Y V u) {z t:Nat} (hz:z<Y) (ht:t<4294967296):zq Y z t (z/(Y/4294967296),z%(Y/4294967296)):=by
 have:=D.yl;have:=D.yh;refine⟨IL.start D.hyy oO hz ht,?_,?_⟩
 ·have:=aV z (y:=Y/4294967296) oO;show z%(Y/4294967296)< _;omega
 ·show z/(Y/4294967296)< _;exact eR (fx _ _) oO
theorem zq.fin {hi lo y s Y V u:Nat} (D:QT hi lo y s Y V u) {z t q r:Nat} (hz:z<Y) (ht:t<4294967296) (h:zq Y z t (q,r)) (hq:q*(Y%4294967296)<=4294967296*r+t):q=(z*4294967296+t)/Y:=h.d.done D.hyy (by have:=D.yl;omega) hq
theorem zq.go {hi lo y s Y V u:Nat} (D:QT hi lo y s Y V u) {z t q r:Nat} (hz:z<Y) (ht:t<4294967296) (h:zq Y z t (q,r)) (hq:4294967296<=q\/4294967296*r+t<q*(Y%4294967296)):
  (q+18446744073709551615)%(2^64)=q-1/\(r+Y/4294967296)%(2^64)=r+Y/4294967296/\q-1<q/\(4294967296<=r+Y/4294967296->q-1=(z*4294967296+t)/Y)/\(r+Y/4294967296<4294967296->zq Y z t (q-1,r+Y/4294967296)):=by
 have h1:=D.yl;have h2:=D.yh;have h3:=h.r;have h4:=h.q;simp only at h3 h4;obtain⟨p1,p2⟩:=h.d.step D.hyy oO hz ht hq;simp only at p1 p2;exact⟨oO,oO,oO,fun g=>p2.big D.hyy oO oO hz g,fun g=>⟨p2,g,by show q-1< _;omega⟩⟩
theorem QT.out {hi lo y s Y V u q1 z q0:Nat} (D:QT hi lo y s Y V u) (hlo:lo<(2^64)) (h:hi<y) (h1:q1=(u*4294967296+V/4294967296)/Y) (hz:z=(u*4294967296+V/4294967296)%Y) (h0:q0=(z*4294967296+V%4294967296)/Y):
  (q1*4294967296%(2^64)+q0)%(2^64)=(hi*(2^64)+lo)/y/\((z*4294967296%(2^64)+V%4294967296)%(2^64)+((2^64)-q0*Y%(2^64)))%(2^64)/2^s=(hi*(2^64)+lo)%y:=by
 have hy:=D.hy;have yl:=D.yl;have yh:=D.yh;obtain⟨a,b⟩:=whole (N:=hi*(2^64)+lo) hy D.hY D.eqn h1 hz h0;have hzl:z<Y:=by rw[hz];exact aV _ oO
 have hq0:q0<4294967296:=IL.lt (B:=4294967296) (y1:=Y/4294967296) (y0:=Y%4294967296) oO hzl (aV _ oC) h0;have hq1:q1<4294967296:=IL.lt (B:=4294967296) (y1:=Y/4294967296) (y0:=Y%4294967296) oO D.hil (by have:=D.hVl;omega) h1
 have hw:=r8 (Dq h0) (by rw[ku h0];exact bM (aV _ oO) oO)
 rw[ku h0,eQ]at hw;rw[hw,b,<-a];exact⟨oO,rfl⟩
theorem E8 (hi lo y:Nat) (h:hi<y) (hlo:lo<(2^64)) (hy:y<(2^64)):aH 344 [.i .u64 hi, .i .u64 lo, .i .u64 y] (.tup [.i .u64 ((hi*(2^64)+lo)/y:Nat), .i .u64 ((hi*(2^64)+lo)%y:Nat)]):=by
 by_cases h0:hi=0
 ·subst h0;have hq:=bV (eR (fx lo y) hlo);refine eW call344 func344 ?_;repeat' first|simp only[go_sem,seval,uw,hq,vJ]|refine oE ?_|apply xX<;>intro hc
 have sc:=scaled h hlo hy;obtain⟨s,hs⟩: ∃s,s=64-Lib.bitLen y:=⟨_,rfl⟩;rw[<-hs]at sc;have hlz:=ua y hy;rw[<-hs]at hlz;obtain⟨s64,yl,yh,hil,eqn,hs1,ol⟩:=sc;obtain⟨Y,hY⟩: ∃Y,Y=y*2^s:=⟨_,rfl⟩;obtain⟨V,hV⟩: ∃V,V=lo*2^s%(2^64):=⟨_,rfl⟩;obtain⟨u,hu⟩: ∃u,u=hi*2^s+lo/2^(64-s):=⟨_,rfl⟩;rw[<-hY]at yl yh hil;rw[<-hu]at hil eqn;rw[<-hV]at eqn;have hVl:V<(2^64):=by rw[hV];exact aV _ oC
 have D:QT hi lo y s Y V u:=⟨oO,s64,yl,yh,hY,hV,hVl,hil,eqn,oO⟩;have e1: ∀ _:True,s%(2^64)=s:=fun _=>oO
 have e2: ∀ _:True,Y%(2^64)=Y:=fun _=>oO
 have e3: ∀ _:True,hi*2^s%(2^64)=hi*2^s:=fun _=>bV hs1
 have e4: ∀ _:True,(64+((2^64)-s))%(2^64)=64-s:=fun _=>oO
 have e5: ∀ _:True,HJ .u64 ((hi*2^s:Nat):Int) ((lo/2^(64-s):Nat):Int)=(u:Int):=fun _=>by
  rw[WR .u64 rfl hs1 (eR (fx _ _) hlo),Gk ol,hu]
 have hm1: ∀ _:True,(if s<=64 then s else 64)=s:=fun _=>by split<;>omega
 have hm2: ∀ _:True,(if 64-s<=64 then 64-s else 64)=64-s:=fun _=>by split<;>omega
 have hY': ∀ _:True,y*2^s=Y:=fun _=>hY.symm
 have hV': ∀ _:True,lo*2^s%(2^64)=V:=fun _=>hV.symm
 have hr0: ∀ _:True,(u+((2^64)-u/(Y/4294967296)*(Y/4294967296)%(2^64)))%(2^64)=u%(Y/4294967296):=fun _=>D.sub oO
 have hq0: ∀ _:True,u/(Y/4294967296)%(2^64)=u/(Y/4294967296):=fun _=>D.quo oO
 have hy1:Y/4294967296≠0:=oO;have h':=h;clear hs hY hV hu eqn hs1 ol hil yl yh hVl s64;refine eW call344 func344 ?_;simp only[go_sem,seval,uw,BL,uJ,AB,Iq,Ff,zE,Eb,Bm,Bk,tc];repeat' first|simp only[go_sem,seval,uw,BL,uJ,AB,Iq,Ff,zE,Eb,Bm,Bk,tc,e1 oT,hm1 oT,hm2 oT,hY' oT,e2 oT,e3 oT,e4 oT,e5 oT,hV' oT,hq0 oT,eQ,hr0 oT]|refine cP hlz ?_|refine oE ?_|apply xX<;>intro hc
 clear e1 e2 e3 e4 e5 hm2 hr0 hq0 hlz hY' hV' h0;refine ah (α:=Nat×Nat) (fun x=>x.1) (fun x=>⟨[(2,U Y),(8,U s),(9,U (Y/4294967296)),(10,U (Y%4294967296)),(11,U u),(13,U (V/4294967296)),(14,U (V%4294967296)),(15,U x.1),(16,U x.2)],[],_⟩) (zq Y u (V/4294967296)) (u/(Y/4294967296),u%(Y/4294967296)) (fun _=>aA _) (.start D D.hil (by have:=D.hVl;omega)) ?_ ?_
 ·exact lE
 ·rintro⟨q,r⟩ hd R hR;have f0:=hd.r;simp only at f0;have f1: ∀ _:True,4294967296*r%(2^64)=4294967296*r:=fun _=>oO
  have f2: ∀ _:True,(4294967296*r+V/4294967296)%(2^64)=4294967296*r+V/4294967296:=fun _=>by have:=D.hVl;omega
  have f3:q*(Y%4294967296)<4294967296*4294967296\/4294967296<=q:=by
   by_cases g:4294967296<=q
   ·exact .inr g
   ·exact .inl (fT oO (aV _ oC))
  repeat' first|simp only[go_sem,seval,uw,BL,uJ,AB,Iq,Ff,zE,Eb,Bm,Bk,tc,f1 oT,f2 oT]|refine oE ?_|apply xX<;>intro hc
  ·obtain⟨g1,g2,g3,g4,g5⟩:=hd.go D D.hil (by have:=D.hVl;omega) oO
   have hq1:(q-1)=(u*4294967296+V/4294967296)/Y:=g4 oO;obtain⟨q1,e1⟩: ∃q1,q1=(q-1):=⟨_,rfl⟩;rw[<-e1]at hq1;obtain⟨z,hz⟩: ∃z,z=(u*4294967296+V/4294967296)%Y:=⟨_,rfl⟩;have hyl:=D.yl;have hyh:=D.yh;have hzl:z<Y:=by rw[hz];exact aV _ oO
   have hw1:=r8 (Dq hq1) (by rw[ku hq1,<-hz];omega)
   rw[ku hq1,<-hz,eQ]at hw1;have hq0:=D.quo (z:=z) oO;have hr0:=D.sub (z:=z) oO;simp only[g1,<-e1,eQ,hw1,hq0,hr0];clear hw1 hq0 hr0 hyl hyh e1 f0 f3;refine ah (α:=Nat×Nat) (fun x=>x.1) (fun x=>⟨[(2,U Y),(8,U s),(9,U (Y/4294967296)),(10,U (Y%4294967296)),(14,U (V%4294967296)),(15,U q1),(17,U z),(18,U x.1),(16,U x.2)],[],_⟩) (zq Y z (V%4294967296)) (z/(Y/4294967296),z%(Y/4294967296)) (fun _=>aA _) (.start D hzl (aV _ oC)) ?_ ?_
   ·exact lE
   ·rintro⟨q,r⟩ hd R hR;have f0:=hd.r;simp only at f0;have f1: ∀ _:True,4294967296*r%(2^64)=4294967296*r:=fun _=>oO
    have f2: ∀ _:True,(4294967296*r+V%4294967296)%(2^64)=4294967296*r+V%4294967296:=fun _=>by have:=D.hVl;omega
    have f3:q*(Y%4294967296)<4294967296*4294967296\/4294967296<=q:=by
     by_cases g:4294967296<=q
     ·exact .inr g
     ·exact .inl (fT oO (aV _ oC))
    repeat' first|simp only[go_sem,seval,uw,BL,uJ,AB,Iq,Ff,zE,Eb,Bm,Bk,tc,f1 oT,f2 oT]|refine oE ?_|apply xX<;>intro hc
    ·obtain⟨g1,g2,g3,g4,g5⟩:=hd.go D hzl (aV _ oC) oO;have:=D.out hlo h' hq1 hz (g4 oO);simp only[g1,hm1 oT,eQ,this.1,this.2]
    ·obtain⟨g1,g2,g3,g4,g5⟩:=hd.go D hzl (aV _ oC) oO;refine hR (q-1,r+Y/4294967296) (g5 oO) g3 _ ?_;rw[g1,g2];exact lE
    ·obtain⟨g1,g2,g3,g4,g5⟩:=hd.go D hzl (aV _ oC) oO;have:=D.out hlo h' hq1 hz (g4 oO);simp only[g1,hm1 oT,eQ,this.1,this.2]
    ·obtain⟨g1,g2,g3,g4,g5⟩:=hd.go D hzl (aV _ oC) oO;refine hR (q-1,r+Y/4294967296) (g5 oO) g3 _ ?_;rw[g1,g2];exact lE
    ·have:=D.out hlo h' hq1 hz (hd.fin D hzl (aV _ oC) oO);simp only[hm1 oT,eQ,this.1,this.2]
  ·obtain⟨g1,g2,g3,g4,g5⟩:=hd.go D D.hil (by have:=D.hVl;omega) oO
   refine hR (q-1,r+Y/4294967296) (g5 oO) g3 _ ?_;rw[g1,g2];exact lE
  ·obtain⟨g1,g2,g3,g4,g5⟩:=hd.go D D.hil (by have:=D.hVl;omega) oO
   have hq1:(q-1)=(u*4294967296+V/4294967296)/Y:=g4 oO;obtain⟨q1,e1⟩: ∃q1,q1=(q-1):=⟨_,rfl⟩;rw[<-e1]at hq1;obtain⟨z,hz⟩: ∃z,z=(u*4294967296+V/4294967296)%Y:=⟨_,rfl⟩;have hyl:=D.yl;have hyh:=D.yh;have hzl:z<Y:=by rw[hz];exact aV _ oO
   have hw1:=r8 (Dq hq1) (by rw[ku hq1,<-hz];omega)
   rw[ku hq1,<-hz,eQ]at hw1;have hq0:=D.quo (z:=z) oO;have hr0:=D.sub (z:=z) oO;simp only[g1,<-e1,eQ,hw1,hq0,hr0];clear hw1 hq0 hr0 hyl hyh e1 f0 f3;refine ah (α:=Nat×Nat) (fun x=>x.1) (fun x=>⟨[(2,U Y),(8,U s),(9,U (Y/4294967296)),(10,U (Y%4294967296)),(14,U (V%4294967296)),(15,U q1),(17,U z),(18,U x.1),(16,U x.2)],[],_⟩) (zq Y z (V%4294967296)) (z/(Y/4294967296),z%(Y/4294967296)) (fun _=>aA _) (.start D hzl (aV _ oC)) ?_ ?_
   ·exact lE
   ·rintro⟨q,r⟩ hd R hR;have f0:=hd.r;simp only at f0;have f1: ∀ _:True,4294967296*r%(2^64)=4294967296*r:=fun _=>oO
    have f2: ∀ _:True,(4294967296*r+V%4294967296)%(2^64)=4294967296*r+V%4294967296:=fun _=>by have:=D.hVl;omega
    have f3:q*(Y%4294967296)<4294967296*4294967296\/4294967296<=q:=by
     by_cases g:4294967296<=q
     ·exact .inr g
     ·exact .inl (fT oO (aV _ oC))
    repeat' first|simp only[go_sem,seval,uw,BL,uJ,AB,Iq,Ff,zE,Eb,Bm,Bk,tc,f1 oT,f2 oT]|refine oE ?_|apply xX<;>intro hc
    ·obtain⟨g1,g2,g3,g4,g5⟩:=hd.go D hzl (aV _ oC) oO;have:=D.out hlo h' hq1 hz (g4 oO);simp only[g1,hm1 oT,eQ,this.1,this.2]
    ·obtain⟨g1,g2,g3,g4,g5⟩:=hd.go D hzl (aV _ oC) oO;refine hR (q-1,r+Y/4294967296) (g5 oO) g3 _ ?_;rw[g1,g2];exact lE
    ·obtain⟨g1,g2,g3,g4,g5⟩:=hd.go D hzl (aV _ oC) oO;have:=D.out hlo h' hq1 hz (g4 oO);simp only[g1,hm1 oT,eQ,this.1,this.2]
    ·obtain⟨g1,g2,g3,g4,g5⟩:=hd.go D hzl (aV _ oC) oO;refine hR (q-1,r+Y/4294967296) (g5 oO) g3 _ ?_;rw[g1,g2];exact lE
    ·have:=D.out hlo h' hq1 hz (hd.fin D hzl (aV _ oC) oO);simp only[hm1 oT,eQ,this.1,this.2]
  ·obtain⟨g1,g2,g3,g4,g5⟩:=hd.go D D.hil (by have:=D.hVl;omega) oO
   refine hR (q-1,r+Y/4294967296) (g5 oO) g3 _ ?_;rw[g1,g2];exact lE
  ·have hq1:q=(u*4294967296+V/4294967296)/Y:=hd.fin D D.hil (by have:=D.hVl;omega) oO
   obtain⟨q1,e1⟩: ∃q1,q1=q:=⟨_,rfl⟩;rw[<-e1]at hq1;obtain⟨z,hz⟩: ∃z,z=(u*4294967296+V/4294967296)%Y:=⟨_,rfl⟩;have hyl:=D.yl;have hyh:=D.yh;have hzl:z<Y:=by rw[hz];exact aV _ oO
   have hw1:=r8 (Dq hq1) (by rw[ku hq1,<-hz];omega)
   rw[ku hq1,<-hz,eQ]at hw1;have hq0:=D.quo (z:=z) oO;have hr0:=D.sub (z:=z) oO;simp only[sF,<-e1,eQ,hw1,hq0,hr0];clear hw1 hq0 hr0 hyl hyh e1 f0 f3;refine ah (α:=Nat×Nat) (fun x=>x.1) (fun x=>⟨[(2,U Y),(8,U s),(9,U (Y/4294967296)),(10,U (Y%4294967296)),(14,U (V%4294967296)),(15,U q1),(17,U z),(18,U x.1),(16,U x.2)],[],_⟩) (zq Y z (V%4294967296)) (z/(Y/4294967296),z%(Y/4294967296)) (fun _=>aA _) (.start D hzl (aV _ oC)) ?_ ?_
   ·exact lE
   ·rintro⟨q,r⟩ hd R hR;have f0:=hd.r;simp only at f0;have f1: ∀ _:True,4294967296*r%(2^64)=4294967296*r:=fun _=>oO
    have f2: ∀ _:True,(4294967296*r+V%4294967296)%(2^64)=4294967296*r+V%4294967296:=fun _=>by have:=D.hVl;omega
    have f3:q*(Y%4294967296)<4294967296*4294967296\/4294967296<=q:=by
     by_cases g:4294967296<=q
     ·exact .inr g
     ·exact .inl (fT oO (aV _ oC))
    repeat' first|simp only[go_sem,seval,uw,BL,uJ,AB,Iq,Ff,zE,Eb,Bm,Bk,tc,f1 oT,f2 oT]|refine oE ?_|apply xX<;>intro hc
    ·obtain⟨g1,g2,g3,g4,g5⟩:=hd.go D hzl (aV _ oC) oO;have:=D.out hlo h' hq1 hz (g4 oO);simp only[g1,hm1 oT,eQ,this.1,this.2]
    ·obtain⟨g1,g2,g3,g4,g5⟩:=hd.go D hzl (aV _ oC) oO;refine hR (q-1,r+Y/4294967296) (g5 oO) g3 _ ?_;rw[g1,g2];exact lE
    ·obtain⟨g1,g2,g3,g4,g5⟩:=hd.go D hzl (aV _ oC) oO;have:=D.out hlo h' hq1 hz (g4 oO);simp only[g1,hm1 oT,eQ,this.1,this.2]
    ·obtain⟨g1,g2,g3,g4,g5⟩:=hd.go D hzl (aV _ oC) oO;refine hR (q-1,r+Y/4294967296) (g5 oO) g3 _ ?_;rw[g1,g2];exact lE
    ·have:=D.out hlo h' hq1 hz (hd.fin D hzl (aV _ oC) oO);simp only[hm1 oT,eQ,this.1,this.2]
theorem Ml (hi lo y:Nat) (h0:0<y) (hhi:hi<(2^64)) (hlo:lo<(2^64)) (hy:y<(2^64)):aH 284 [.i .u64 hi, .i .u64 lo, .i .u64 y] (.i .u64 ((hi*(2^64)+lo)%y:Nat)):=by
 have h1:hi%y<y:=aV _ h0;have h2:(hi%y*(2^64)+lo)%y=(hi*(2^64)+lo)%y:=by
  rw[jP,db,eQ,<-db,<-jP]
 refine eW call284 func284 ?_;repeat' first|simp only[go_sem,seval,h2]|refine cP (E8 _ _ _ h1 hlo hy) ?_|refine oE ?_|apply xX<;>intro hc
theorem Ys {l:List Nat} {i:Nat} (h:i<l.length):(l.map fun n:Nat=>PV.i .u8 n).getD i .fn0= .i .u8 (l.getD i 0:Nat):=by
 simp[bu,h]
theorem s8 (x:Nat) (h0:x≠0) (h:x<(2^64)):aH 312 [.i .u64 x] (E (Lib.ctz 64 x:Nat)):=by
 obtain⟨g1,g2⟩:=Lib.lowest_bit 64 x h0 h;obtain⟨g3,g4⟩:=Lib.deBruijn64_at _ g2;obtain⟨k,hk⟩: ∃k,k=Lib.ctz 64 x:=⟨_,rfl⟩;rw[<-hk]at g1 g2 g3 g4⊢;obtain⟨p,hp⟩: ∃p,p=2^k:=⟨_,rfl⟩;rw[<-hp]at g1 g3 g4;obtain⟨i,hi⟩: ∃i,i=p*285870213051353865%(2^64)/288230376151711744:=⟨_,rfl⟩;rw[<-hi]at g3 g4;have e1: ∀ _:True,IntKind.u64.wrap (0-(x:Int))=(((2^64)-x:Nat):Int):=fun _=>by rw[BT];omega
 have e2: ∀ _:True,nE .u64 (x:Int) (((2^64)-x:Nat):Int)=((p:Nat):Int):=fun _=>by
  rw[N2 .u64 rfl h (by show(2^64)-x<(2^64);omega)];exact congrArg _ g1
 have e3: ∀ _:True,p*285870213051353865%(2^64)/288230376151711744=i:=fun _=>hi.symm
 have e4:=Ys (l:=Lib.deBruijn64tab) (i:=i) (by exact g3)
 rw[g4]at e4;have e5: ∀ _:True,([(.i .u8 0),(.i .u8 1),(.i .u8 56),(.i .u8 2),(.i .u8 57),(.i .u8 49),(.i .u8 28),(.i .u8 3),(.i .u8 61),(.i .u8 58),(.i .u8 42),(.i .u8 50),(.i .u8 38),(.i .u8 29),(.i .u8 17),(.i .u8 4),(.i .u8 62),(.i .u8 47),(.i .u8 59),(.i .u8 36),(.i .u8 45),(.i .u8 43),(.i .u8 51),(.i .u8 22),(.i .u8 53),(.i .u8 39),(.i .u8 33),(.i .u8 30),(.i .u8 24),(.i .u8 18),(.i .u8 12),(.i .u8 5),(.i .u8 63),(.i .u8 55),(.i .u8 48),(.i .u8 27),(.i .u8 60),(.i .u8 41),(.i .u8 37),(.i .u8 16),(.i .u8 46),(.i .u8 35),(.i .u8 44),(.i .u8 21),(.i .u8 52),(.i .u8 32),(.i .u8 23),(.i .u8 11),(.i .u8 54),(.i .u8 26),(.i .u8 40),(.i .u8 15),(.i .u8 34),(.i .u8 20),(.i .u8 31),(.i .u8 10),(.i .u8 25),(.i .u8 14),(.i .u8 19),(.i .u8 9),(.i .u8 13),(.i .u8 8),(.i .u8 7),(.i .u8 6)]:List PV).getD i .fn0= .i .u8 (k:Nat):=fun _=>e4
 clear g1 g4 hi hp e4;refine eW call312 func312 ?_;simp only[go_sem,seval,e1 oT,e2 oT,uJ,e3 oT,e5 oT];repeat' first|simp only[go_sem,seval,e1 oT,e2 oT,uJ,e3 oT,e5 oT]|refine oE ?_|apply xX<;>intro hc
 all_goals skip
