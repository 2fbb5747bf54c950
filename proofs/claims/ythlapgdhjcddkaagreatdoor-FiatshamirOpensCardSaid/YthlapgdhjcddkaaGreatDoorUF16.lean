/- Part of the proof. -/
import Derived.Test.YthlapgdhjcddkaaGreatDoorUF15
import Derived.Lib.ItoaNum
set_option linter.all false
namespace Go.Dom
variable {a b k o x:Nat} {el:Option TypeId}
theorem YE (x:Int):IntKind.u8.wrap x=x%256:=sE x
theorem LV (x:Int):IntKind.u32.wrap x=x%4294967296:=IntKind.wrap_u32 x
theorem BT (x:Int):IntKind.u64.wrap x=x%18446744073709551616:=by simp[IntKind.wrap,IntKind.bits,IntKind.signed]
theorem Du (a b:Nat):(a:Int).fdiv (b:Int)=((a/b:Nat):Int):=by
 rw[J9 _ (by omega)];rfl
theorem Sy (a k:Nat):(a:Int).fdiv (2^k)=((a/2^k:Nat):Int):=by
 have:((2:Int)^k)=((2^k:Nat):Int):=by simp
 rw[this,Du]
theorem l8 (a:Nat):IntKind.u8.wrap (a:Int)=((UInt8.ofNat a).toNat:Int):=by
 rw[YE,jd];omega
theorem ib (w a:Nat):BitVec.ofInt w (a:Int)=BitVec.ofNat w a:=BitVec.ofInt_natCast w a
theorem QJ (k:IntKind) (hk:k.signed=false) (x:Nat):k.wrap (x:Int)=((x%2^k.bits:Nat):Int):=by
 simp[IntKind.wrap,hk]
theorem WR (k:IntKind) (hk:k.signed=false) (ha:a<2^k.bits) (hb:b<2^k.bits):HJ k (a:Int) (b:Int)=((a|||b:Nat):Int):=by
 rw[HJ,ib,ib,BitVec.toNat_or,lK,lK,bV ha,bV hb,QJ k hk,bV (Nat.or_lt_two_pow ha hb)]
theorem N2 (k:IntKind) (hk:k.signed=false) (ha:a<2^k.bits) (hb:b<2^k.bits):nE k (a:Int) (b:Int)=((a&&&b:Nat):Int):=by
 rw[nE,ib,ib,BitVec.toNat_and,lK,lK,bV ha,bV hb,QJ k hk,bV (Nat.and_lt_two_pow _ hb)]
theorem UX (k:IntKind) (hk:k.signed=false) (ha:a<2^k.bits) (hb:b<2^k.bits):FV k (a:Int) (b:Int)=((a^^^b:Nat):Int):=by
 rw[FV,ib,ib,BitVec.toNat_xor,lK,lK,bV ha,bV hb,QJ k hk,bV (Nat.xor_lt_two_pow ha hb)]
theorem Gk {c:Nat} (h:c<2^k):x*2^k|||c=x*2^k+c:=by
 rw[<-Nat.shiftLeft_eq,Nat.shiftLeft_add_eq_or_of_lt h]
theorem Mu (x k:Nat):x&&&(2^k-1)=x%2^k:=J8 x k
theorem zQ (l:List PV):chunk 1 l.length l=l:=by
 induction l with
 |nil=>rfl
 |cons x r ih=>simp[chunk,ih]
theorem G3 {hf:Nat->Option aI} {f n ver:Nat} {l:Bytes} {gr:Bool} {m:Nat} (hm:m=l.length) (h:hf n=some ⟨ver,aM l,gr,el⟩):
  view hf (f+2) (.rs n ver 0 m 1)=some (.sl (l.map u8)):=by
 subst hm;have h1:bA (view hf (f+1)) (aM l)=some (l.map u8):=by
  have:=iW hf f (l.map u8);rw[iK]at this;exact this
 have h2:(aM l).all AV.one=true:=by simp[aM,AV.one,PV.one,u8]
 have h3:chunk 1 l.length (l.map u8)=l.map u8:=by have:=zQ (l.map u8);simpa using this
 simp[view,h,ny,h2,kf,h1,h3]
theorem Em {hf:Nat->Option aI} {f n ver:Nat} {l:Bytes} {gr:Bool} {m:Nat} (hm:m=l.length) (h:hf n=some ⟨ver,aM l,gr,el⟩):
  aW hf (f+2) (.rs n ver 0 m 1)=[n]:=by
 subst hm;have h1:(aM l).flatMap (aW hf (f+1))=[]:=by
  unfold aM
  induction l with
  |nil=>rfl
  |cons x r ih=>simp_all[aW]
 simp[aW,h,kf,h1]
theorem iQ {P:Program} [cW P] {Q:AX->AS->Prop} {nx:Nat} {bf:Option (List Nat)} {nn:Nat} {d:Option Nat} {ops:List j9} {s:AS} {tr:List (Nat×List Nat×List Nat)} {K:List Fr} {nm:Nat} {f:FuncId} {n ver m:Nat} {l:Bytes} {gr:Bool} {r:PV}
  (he:qG P f [.sl (l.map u8)] r) (hr:r.flat=true) (hg:az s.h n=some ⟨ver,aM l,gr,el⟩) (hm:m=l.length) (hK:RW P Q nx bf nn ops (k+1) (s.sM d (.v r) []) (xJ bf k [n] [] tr) K):
  CR P Q nx bf nn nm (.v (.fn (.func f))) [.rs n ver 0 m 1] d ops k s tr K:=by
 refine lO he ?_ hr ?_
 ·simp[bA,G3 hm hg]
 ·have:[AV.rs n ver 0 m 1].flatMap (aW (az s.h) 9)=[n]:=by simp[Em hm hg]
  rw[this];exact hK
theorem uh {l:Bytes} {x:Int} {c:UInt8} (h:o<l.length) (hx:x=(c.toNat:Int)):(aM l).take o++[.v (.i .u8 x)]++(aM l).drop (o+1)=aM (l.set o c):=by
 subst hx;unfold aM;rw[vF,yO];simp[h,u8]
theorem ZO (a n:Nat):(a:Int).fdiv (no_index (OfNat.ofNat n))=((a/(OfNat.ofNat n):Nat):Int):=Du a n
theorem aaN (a b:Nat):(a:Int).tdiv (b:Int)=((a/b:Nat):Int):=rfl
theorem aaP (a b:Nat):(a:Int).tmod (b:Int)=((a%b:Nat):Int):=rfl
theorem aaM (a n:Nat):(a:Int).tdiv (no_index (OfNat.ofNat n))=((a/(OfNat.ofNat n):Nat):Int):=rfl
theorem aaO (a n:Nat):(a:Int).tmod (no_index (OfNat.ofNat n))=((a%(OfNat.ofNat n):Nat):Int):=rfl
theorem uw (a:Nat):IntKind.u64.wrap (a:Int)=((a%18446744073709551616:Nat):Int):=by rw[BT];omega
theorem BL (a b:Nat):IntKind.u64.wrap ((a:Int)*(b:Int))=((a*b%18446744073709551616:Nat):Int):=by rw[<-Int.natCast_mul,uw]
theorem uJ (a n:Nat):IntKind.u64.wrap ((a:Int)*(no_index (OfNat.ofNat n)))=((a*(OfNat.ofNat n)%18446744073709551616:Nat):Int):=BL a n
theorem AB (a n:Nat):IntKind.u64.wrap ((no_index (OfNat.ofNat n))*(a:Int))=(((OfNat.ofNat n)*a%18446744073709551616:Nat):Int):=BL n a
theorem Iq (a k:Nat):IntKind.u64.wrap ((a:Int)*2^k)=((a*2^k%18446744073709551616:Nat):Int):=by
 have:=BL a (2^k);simpa using this
theorem Ff (a b:Nat):IntKind.u64.wrap ((a:Int)+(b:Int))=(((a+b)%18446744073709551616:Nat):Int):=by rw[<-Int.natCast_add,uw]
theorem zE (a n:Nat):IntKind.u64.wrap ((a:Int)+(no_index (OfNat.ofNat n)))=(((a+(OfNat.ofNat n))%18446744073709551616:Nat):Int):=Ff a n
theorem Eb (a b:Nat):IntKind.u64.wrap ((a:Int)-(b:Int))=(((a+(18446744073709551616-b%18446744073709551616))%18446744073709551616:Nat):Int):=by rw[BT];omega
theorem Bm (a n:Nat):IntKind.u64.wrap ((a:Int)-(no_index (OfNat.ofNat n)))=(((a+(18446744073709551616-(OfNat.ofNat n)%18446744073709551616))%18446744073709551616:Nat):Int):=Eb a n
theorem Bk (a n:Nat):IntKind.u64.wrap ((no_index (OfNat.ofNat n))-(a:Int))=((((OfNat.ofNat n)+(18446744073709551616-a%18446744073709551616))%18446744073709551616:Nat):Int):=Eb n a
theorem ab0 (a b:Nat):nE .u64 (a:Int) (b:Int)=(((a%18446744073709551616)&&&(b%18446744073709551616):Nat):Int):=by
 have h:=N2 .u64 rfl (a:=a%18446744073709551616) (b:=b%18446744073709551616) (aV _ (by decide)) (aV _ (by decide))
 rw[<-h];unfold nE;simp only[ib];congr 4<;>(apply BitVec.eq_of_toNat_eq;simp[IntKind.bits])
theorem tc (a:Nat):nE .u64 (a:Int) 4294967295=((a%4294967296:Nat):Int):=by
 have h:=ab0 a 4294967295;have e:(a%18446744073709551616)&&&(4294967295%18446744073709551616)=a%4294967296:=by
  have:=Mu (a%18446744073709551616) 32;rw[show(4294967295%18446744073709551616:Nat)=2^32-1 from rfl,this];omega
 rw[e]at h;exact h
theorem acY (h:x<256):IntKind.u8.wrap (x:Int)=(x:Int):=IntWalk.u8_in _ (by omega)
attribute [go_sem] ZO Sy aaN aaP aaM aaO
def aF (k:IntKind) (l:List Nat):List AV:=l.map fun x:Nat=> .v (.i k (x:Int))
theorem bH (k:IntKind) (l:List Nat):(aF k l).length=l.length:=by simp[aF]
theorem tB (k:IntKind) (n:Nat):(List.replicate n [AV.v (PV.i k 0)]).flatten=aF k (List.replicate n 0):=by
 induction n with
 |zero=>rfl
 |succ n ih=>simp[List.replicate_succ,aF]at ih⊢
theorem dV {k:IntKind} {l:List Nat} {i:Nat} (h:i<l.length):(aF k l).getD i .u= .v (.i k (l.getD i 0:Nat)):=by
 simp[aF,bu,h]
theorem eL {k:IntKind} {l:List Nat} {y:Int} (h:o<l.length) (hy:y=(x:Int)):(aF k l).take o++[.v (.i k y)]++(aF k l).drop (o+1)=aF k (l.set o x):=by
 subst hy;unfold aF;rw[vF,yO];simp[h]
theorem an (k:IntKind) (l:List Nat) (n:Nat):(∀y,y∈aF k l->y.bd n=true)=True:=by
 simp only[eq_iff_iff,iff_true];intro y hy;obtain⟨c,-,rfl⟩:=cx.1 hy;rfl
theorem Gy (f:Nat->Option Nat) (k:IntKind) (l:List Nat):AV.aR.renL f (aF k l)=some (aF k l):=by
 induction l with
 |nil=>rfl
 |cons c l ih=>
  have:AV.aR.renL f (AV.v (.i k c)::aF k l)=some (AV.v (.i k c)::aF k l):=by simp[AV.aR.renL,AV.aR,ih]
  exact this
structure Hid (p:Prop):Prop where
 v:p
end Go.Dom
namespace Go.Dom
open Go.RowKit
section
variable {P:Program} [cW P] {Q:AX->AS->Prop}
variable {k nm nx:Nat} {tr:List (Nat×List Nat×List Nat)}
theorem cP {bf:Option (List Nat)} {n:Nat} {d:Option Nat} {ops:List j9} {s:AS} {K:List Fr} {f:FuncId} {avs:List AV} {pvs:List PV} {r:PV} (he:qG P f pvs r) (hK:RW P Q nx bf n ops (k+1) (s.sM d (.v r) []) (xJ bf k [] [] tr) K) (ha:o7 avs=some pvs:=by exact rfl):
  CR P Q nx bf n nm (.v (.fn (.func f))) avs d ops k s tr K:=fX he ha hK
theorem cV {bf:Option (List Nat)} {n:Nat} {d:Option Nat} {ops:List j9} {s:AS} {K:List Fr} {f:FuncId} {avs:List AV} {pvs:List PV} {r:PV} (he:qG P f pvs r) (hK:RW P Q nx bf n ops (k+1) (s.sM d (.v r) []) (xJ bf k (avs.flatMap (aW (az s.h) 9)) [] tr) K) (ha:bA (view (az s.h) 9) avs=some pvs:=by exact rfl) (hr:r.flat=true:=by exact rfl):
  CR P Q nx bf n nm (.v (.fn (.func f))) avs d ops k s tr K:=lO he ha hr hK
theorem bP:(∀(c:Bool) (κ:BK),c=true->BX P Q c κ=BX P Q true κ)/\(∀(c:Bool) (κ:BK),c=false->BX P Q c κ=BX P Q false κ)/\(∀(p:Prop) (κ:BK),p->PX P Q p κ=BX P Q true κ)/\(∀(p:Prop) (κ:BK),¬p->PX P Q p κ=BX P Q false κ):=
 ⟨fun _ _ h=>Q6 h,fun _ _ h=>Q5 h,fun _ _ h=>Mj h,fun _ _ h=>Mi h⟩
theorem pX {p:Prop} {κ:BK} (h1:p->BX P Q true κ) (h2: ¬p->BX P Q false κ):PX P Q p κ:=PX.mk h1 h2
theorem bX {c:Bool} {κ:BK} (h1:c=true->BX P Q true κ) (h2:c=false->BX P Q false κ):BX P Q c κ:=BX.mk h1 h2
end
theorem bW:(∀n:Int,-9223372036854775808<=n/\n<=9223372036854775807->IntKind.i64.wrap n=n)/\(∀n:Int,0<=n/\n<=18446744073709551615->IntKind.u64.wrap n=n):=⟨IntWalk.i64_in,IntWalk.u64_in⟩
theorem oD {p:Prop} (h:p:=by first|omega|decide):p:=h
theorem lE {t t':List (Nat×AV)} {h h':List (Nat×aI)} {n n':Nat} (hn:n<=n':=by first|decide|omega) (ht:cU t' n t:=by simp[cU,cT,aO,az,AV.bd,AV.bd.bdL,u8,aj,ak,an]) (hh:cT h' n h:=by simp[cU,cT,aO,az,AV.bd,AV.bd.bdL,u8,aj,ak,an]):(AS.mk t h n).Le ⟨t',h',n'⟩:=AS.Le.of hn ht hh
end Go.Dom
namespace Go.Dom
variable {a b:Bytes} {i p t u y:Nat}
def num:Bytes->Nat
 |[]=>0
 |x::r=>x.toNat*256^r.length+num r
def be:Nat->Nat->Bytes
 |0,_=>[]
 |k+1,n=>UInt8.ofNat (n/256^k)::be k n
def gp:Bytes->Bytes
 |[]=>[]
 |x::r=>if x=0 then gp r else x::r
def b7 (n:Nat):Bytes:=gp (be (n.log2/8+1) n)
def ae (a:Bytes):Bool:=decide (a.length<=128)&&(a.length==0||a.headD 0 !=0)
theorem cX (k n:Nat):(be k n).length=k:=by induction k<;>simp_all[be]
theorem jU (k:Nat):0<256^k:=iJ (by decide)
theorem cO (a:Bytes):num a<256^a.length:=by
 induction a with
 |nil=>decide
 |cons x r ih=>
  simp only[num,List.length_cons,Nat.pow_succ];have:=x.toNat_lt;have h2:x.toNat*256^r.length<=255*256^r.length:=dQ _ (by omega)
  omega
theorem AE (a b:Bytes):num (a++b)=num a*256^b.length+num b:=by
 induction a with
 |nil=>simp[num]
 |cons x r ih=>simp only[List.cons_append,num,ih,bR,dD,dK,de];omega
theorem Gf (a:Bytes) (x:UInt8):num (a++[x])=num a*256+x.toNat:=by simp[AE,num]
theorem AF (k n:Nat):num (be k n)=n%256^k:=by
 induction k with
 |zero=>simp[be,num,mT]
 |succ k ih=>
  simp only[be,num,cX,ih,jd];have h:=ql (x:=n) (a:=256^k) (b:=256);rw[show(256:Nat)^(k+1)=256^k*256 from Nat.pow_succ ..,h,cv (256^k)]
  show n/256^k%256*256^k+n%256^k= _;omega
theorem Df (a:Bytes):be a.length (num a)=a:=by
 induction a with
 |nil=>rfl
 |cons x r ih=>
  have h:num (x::r)=x.toNat*256^r.length+num r:=rfl;have h1:=cO r;have h2:num (x::r)/256^r.length=x.toNat:=by
   rw[h,cv,yI (jU _),iZ h1];omega
  have h3: ∀k m m',m%256^k=m'%256^k->be k m=be k m':=by
   intro k
   induction k with
   |zero=>intros;rfl
   |succ k ih=>
    intro m m' hm;have e1:m/256^k%256=m'/256^k%256:=by
     rw[Nat.pow_succ]at hm;have a1:=ql (x:=m) (a:=256^k) (b:=256);have a2:=ql (x:=m') (a:=256^k) (b:=256);have b1:m%(256^k*256)/256^k=m/256^k%256:=by rw[sf]
     have b2:m'%(256^k*256)/256^k=m'/256^k%256:=by rw[sf]
     rw[<-b1,<-b2,hm]
    have e2:m%256^k=m'%256^k:=by
     have a1:m%256^(k+1)%256^k=m%256^k:=vA _ (EW 256 (qp k));have a2:m'%256^(k+1)%256^k=m'%256^k:=vA _ (EW 256 (qp k));rw[<-a1,<-a2,hm]
    simp only[be,ih m m' e2];congr 1;apply kP.1;simpa using e1
  simp only[List.length_cons,be,h2];rw[show UInt8.ofNat x.toNat=x by simp,h3 r.length (num (x::r)) (num r) (by rw[h,Nat.mul_add_mod_self_right]),ih]
theorem tR (a:Bytes): ∃k,a=List.replicate k 0++gp a/\(gp a=[]\/(gp a).headD 0≠0):=by
 induction a with
 |nil=>exact⟨0,rfl, .inl rfl⟩
 |cons x r ih=>
  simp only[gp];split
  ·rename_i h;subst h;obtain⟨k,e,h⟩:=ih;exact⟨k+1,by simp[List.replicate_succ,<-e],h⟩
  ·rename_i h;exact⟨0,rfl, .inr h⟩
theorem K9 (k:Nat) (a:Bytes):num (List.replicate k 0++a)=num a:=by
 induction k with
 |zero=>rfl
 |succ k ih=>simp[List.replicate_succ,num,ih]
theorem AG (a:Bytes):num (gp a)=num a:=by
 obtain⟨k,e,-⟩:=tR a
 conv=>rhs;rw[e,K9]
def Canon (a:Bytes):Prop:=a=[]\/a.headD 0≠0
theorem tS (a:Bytes):Canon (gp a):=by obtain⟨k,-,h⟩:=tR a;exact h
theorem pq (h:Canon a) (hne:a≠[]):256^(a.length-1)<=num a:=by
 cases a with
 |nil=>exact aJ rfl hne
 |cons x r=>
  rcases h with h|h
  ·cases h
  ·have hx:0<x.toNat:=by
    rcases kH x.toNat with e|e
    ·exact aJ (kP.1 e:x=0) h
    ·exact e
   simp only[num,List.length_cons,sB];have:=dQ (256^r.length) hx;omega
theorem wz (ha:Canon a) (hb:Canon b) (h:num a=num b):a=b:=by
 have key: ∀{a b:Bytes},Canon a->Canon b->num a=num b->a.length<=b.length:=by
  intro a b ha hb h
  by_cases hne:a=[]
  ·subst hne;simp
  ·have h1:=pq ha hne;have h2:=cO b;have h3:256^(a.length-1)<256^b.length:=by omega
   have:=(si (by decide:1<256)).1 h3
   omega
 have hl:a.length=b.length:=EX (key ha hb h) (key hb ha h.symm);have h1:=Df a;rw[h,hl,Df b]at h1;exact h1.symm
theorem S5 (n:Nat):n<256^(n.log2/8+1):=by
 have h1:n<2^(n.log2+1):=vI;have h2:(256:Nat)^(n.log2/8+1)=2^(8*(n.log2/8+1)):=by rw[kR]
 rw[h2];exact bM h1 (dp (by decide) (by omega))
theorem bG (n:Nat):num (b7 n)=n:=by
 rw[b7,AG,AF];exact bV (S5 n)
theorem iF (n:Nat):Canon (b7 n):=tS _
theorem IZ (h:Canon a):b7 (num a)=a:=wz (iF _) h (bG _)
theorem Qs (a:Bytes):gp a=b7 (num a):=wz (tS _) (iF _) (by rw[AG,bG])
theorem kF {k n:Nat} (h:n<256^k):gp (be k n)=b7 n:=by rw[Qs,AF,bV h]
theorem MW:b7 0=[]:=by decide
theorem lQ {n k:Nat}:(b7 n).length<=k↔n<256^k:=by
 constructor
 ·intro h;have:=cO (b7 n);rw[bG]at this;exact bM this (dp (by decide) h)
 ·intro h
  by_cases hne:b7 n=[]
  ·simp[hne]
  ·have h1:=pq (iF n) hne;rw[bG]at h1;have h3:256^((b7 n).length-1)<256^k:=by omega
   have:=(si (by decide:1<256)).1 h3
   omega
theorem IY {m n:Nat}:b7 m=b7 n↔m=n:=⟨fun h=>by rw[<-bG m,h,bG],fun h=>by rw[h]⟩
theorem jh {n:Nat}:b7 n=[]↔n=0:=by rw[<-MW];exact IY
theorem tT (a:Bytes):ae a=true↔a.length<=128/\Canon a:=by
 unfold ae Canon
 cases a with
 |nil=>simp
 |cons x r=>simp
theorem bJ (h:ae a=true):Canon a:=((tT a).1 h).2
theorem jr (h:ae a=true):b7 (num a)=a:=IZ (bJ h)
theorem eU (h:ae a=true):a.length<=128:=((tT a).1 h).1
theorem wN (h:ae a=true):num a<256^128:=bM (cO a) (dp (by decide) (eU h))
theorem rZ {n:Nat} (h:n<256^128):ae (b7 n)=true:=(tT _).2 ⟨lQ.2 h,iF n⟩
theorem uL (ha:ae a=true):num a=0↔a=[]:=by
 constructor
 ·intro h;exact wz (bJ ha) (.inl rfl) h
 ·intro h;subst h;rfl
theorem wM (a:Bytes) (h:i<a.length):(a.getD (a.length-1-i) 0).toNat=num a/256^i%256:=by
 have e:a=a.take (a.length-1-i)++(a.getD (a.length-1-i) 0::a.drop (a.length-i)):=by
  have h2:a.length-1-i<a.length:=by omega
  conv=>lhs;rw[<-vT (a.length-1-i) a,kJ h2]
  rw[show a.length-1-i+1=a.length-i by omega]
  simp[bu,h2]
 have hl:(a.drop (a.length-i)).length=i:=by simp;omega
 have hn:=AE (a.take (a.length-1-i)) (a.getD (a.length-1-i) 0::a.drop (a.length-i));rw[<-e]at hn;simp only[num,List.length_cons,hl]at hn;have hlt:=cO (a.drop (a.length-i));rw[hl]at hlt;generalize (a.getD (a.length-1-i) 0)=c at hn⊢;have hc:=c.toNat_lt;have:num a=(num (a.take (a.length-1-i))*256+c.toNat)*256^i+num (a.drop (a.length-i)):=by
  rw[hn,Nat.pow_succ,dK,de,cv 256];omega
 rw[this,cv _ (256^i),yI (jU _),iZ hlt];omega
theorem tG (a:Bytes) (h:a.length<=i):num a/256^i=0:=iZ (bM (cO a) (dp (by decide) h))
theorem xC (x y:UInt8) {r s:Bytes} (hl:r.length=s.length):num (x::r)<num (y::s)↔x.toNat<y.toNat\/(x=y/\num r<num s):=by
 simp only[num,hl];have h1:=cO r;have h2:=cO s;rw[hl]at h1;generalize 256^s.length=p at h1 h2⊢;rcases yT x.toNat y.toNat with h|h|h
 ·have:=dQ p (show x.toNat+1<=y.toNat from h)
  rw[dK]at this;simp only[h,true_or,iff_true];omega
 ·have:x=y:=kP.1 h;subst this;simp
 ·have:=dQ p (show y.toNat+1<=x.toNat from h)
  rw[dK]at this;have hne:x≠y:=fun e=>by subst e;omega
  simp only[hne,false_and,or_false];omega
theorem ji (hb:Canon b) (h:a.length<b.length):num a<num b:=by
 have h1:=cO a;have h2:=pq hb (by intro e;subst e;simp at h)
 exact bM h1 (fw (dp (by decide) (by omega)) h2)
theorem J0 {α:Type} (l m:List α) (x y:α):(l++x::m).set l.length y=l++y::m:=by simp
theorem IG (k:Nat):(List.replicate (k+1) (0:UInt8))=List.replicate k 0++[0]:=by rw[Ew]
theorem iR {n i:Nat} (hi:i<n) (c:UInt8) (b:Bytes):(List.replicate (n-i) (0:UInt8)++b).set (n-1-i) c=List.replicate (n-(i+1)) 0++(c::b):=by
 obtain⟨k,rfl⟩: ∃k,n=k+i+1:=⟨n-i-1,by omega⟩
 rw[show k+i+1-i=k+1 by omega,show k+i+1-1-i=k by omega,show k+i+1-(i+1)=k by omega,IG]
 have:=J0 (List.replicate k (0:UInt8)) b 0 c;simpa using this
theorem DK (a p:Nat):a%(p*256)=a%p+p*(a/p%256):=ql
theorem Cf (x p:Nat):x%(p*256)/p=x/p%256:=sf x p 256
theorem ofNat_mod {x:Nat} (h:x%256=y%256):UInt8.ofNat x=UInt8.ofNat y:=by
 apply kP.1;simpa using h
def carry (a b p:Nat):Nat:=(a%p+b%p)/p
theorem Fp (a b:Nat) (hp:0<p):carry a b p<=1:=by
 unfold carry;have h1:=aV a hp;have h2:=aV b hp;have:(a%p+b%p)/p<2:=(je hp).2 (by omega)
 omega
theorem Cb (a b:Nat) (hp:0<p):carry a b p+(a/p%256+b/p%256)=(a%(p*256)+b%(p*256))/p:=by
 unfold carry;rw[DK,DK,show a%p+p*(a/p%256)+(b%p+p*(b/p%256))=(a%p+b%p)+p*(a/p%256+b/p%256) by rw[kN];omega,oZ _ _ hp]
theorem zL (a b:Nat) (hp:0<p):UInt8.ofNat (carry a b p+(a/p%256+b/p%256))=UInt8.ofNat ((a+b)/p):=by
 rw[Cb a b hp];apply ofNat_mod;rw[<-Cf,<-Cf,<-jP]
theorem zM (a b:Nat) (hp:0<p):(carry a b p+(a/p%256+b/p%256))/256=carry a b (p*256):=by
 rw[Cb a b hp,ff];rfl
def borrow (a b p:Nat):Nat:=if a%p<b%p then 1 else 0
theorem B8 (a b p:Nat):borrow a b p<=1:=by unfold borrow;split<;>omega
theorem xt (a b:Nat) (hp:0<p):borrow a b (p*256)=if((a/p%256:Nat):Int)-(b/p%256:Nat)-(borrow a b p:Nat)<0 then 1 else 0:=by
 unfold borrow;rw[DK,DK];have h1:=aV a hp;have h2:=aV b hp;generalize a/p%256=x;generalize b/p%256=y;generalize a%p=r at*;generalize b%p=q at*;have key:(r+p*x<q+p*y)↔(x<y\/(x=y/\r<q)):=by
  rcases yT x y with h|h|h
  ·have:=jR p (show x+1<=y from h)
   rw[kN]at this;simp only[h,true_or,iff_true];omega
  ·subst h;simp
  ·have:=jR p (show y+1<=x from h)
   rw[kN]at this;constructor
   ·intro;omega
   ·rintro(_|⟨_,_⟩)<;>omega
 by_cases hk:r+p*x<q+p*y
 ·rw[af hk,af];rcases key.1 hk with h|⟨h,h'⟩
  ·split<;>omega
  ·rw[af h'];omega
 ·rw[aa hk,aa];have:=fun h=>hk (key.2 h)
  split<;>omega
theorem xr (a b:Nat) (hp:0<p) (h:b<=a) (d:Int) (hd:d=((a/p%256:Nat):Int)-(b/p%256:Nat)-(borrow a b p:Nat)):d%256=(((a-b)/p%256:Nat):Int):=by
 have h1:=aV a hp;have h2:=aV b hp;have e1:=jc a p;have e2:=jc b p;have hle:b/p+borrow a b p<=a/p:=by
  have hdv:=Nat.div_le_div_right (c:=p) h;unfold borrow;split
  ·rename_i hlt;rcases qn (b/p) (a/p)with g|g
   ·omega
   ·have:b/p=a/p:=by omega
    rw[this]at e2;omega
  ·omega
 have key:(a-b)/p=a/p-b/p-borrow a b p:=by
  have e3:a-b=(a%p+borrow a b p*p-b%p)+p*(a/p-b/p-borrow a b p):=by
   rw[Nat.mul_sub,Nat.mul_sub,cv (borrow a b p) p];have g1:p*(b/p)+p*borrow a b p<=p*(a/p):=by rw[<-kN];exact jR _ hle
   have g2:b%p<=a%p+p*borrow a b p:=by unfold borrow;split<;>simp<;>omega
   omega
  have hlt:a%p+borrow a b p*p-b%p<p:=by unfold borrow;split<;>simp<;>omega
  rw[e3,oZ _ _ hp,iZ hlt,eX]
 rw[key,hd];omega
structure IL (B y y1 y0 u t q r:Nat):Prop where
 s:q*y1+r=u
 ge:(u*B+t)/y<=q
theorem IL.step {B y y1 y0 u t q r:Nat} (hy:y=y1*B+y0) (hy0:0<y) (h:IL B y y1 y0 u t q r) (hu:u<y) (ht:t<B) (hc:B<=q\/B*r+t<q*y0):0<q/\IL B y y1 y0 u t (q-1) (r+y1):=by
 have hlt:(u*B+t)/y<q:=by
  rcases hc with hc|hc
  ·refine bM ((je hy0).2 ?_) hc;have:(u+1)*B<=y*B:=dQ _ hu;rw[dK]at this;rw[cv B y];omega
  ·refine(je hy0).2 ?_;have e:q*y=q*y1*B+q*y0:=by rw[hy,kN,de]
   have e2:u*B=q*y1*B+B*r:=by rw[<-h.s,dK,cv r B]
   omega
 have hq:0<q:=eR (aD _) hlt;refine⟨hq,⟨?_,Nat.le_sub_one_of_lt hlt⟩⟩;have:=h.s;obtain⟨k,rfl⟩: ∃k,q=k+1:=⟨q-1,by omega⟩
 rw[dK]at this;simp only[sB];omega
theorem IL.done {B y y1 y0 u t q r:Nat} (hy:y=y1*B+y0) (hy0:0<y) (h:IL B y y1 y0 u t q r) (hc:q*y0<=B*r+t):q=(u*B+t)/y:=by
 refine EX ((vD hy0).2 ?_) h.ge;have e:q*y=q*y1*B+q*y0:=by rw[hy,kN,de]
 have e2:u*B=q*y1*B+B*r:=by rw[<-h.s,dK,cv r B]
 omega
theorem IL.big {B y y1 y0 u t q r:Nat} (hy:y=y1*B+y0) (hy0:0<y) (hy0B:y0<B) (h:IL B y y1 y0 u t q r) (hu:u<y) (hr:B<=r):q=(u*B+t)/y:=by
 have hq:q<B:=by
  rcases qn q B with g|g
  ·exact g
  ·exfalso
   have:=dQ y1 g;have:=h.s;rw[cv B y1]at*;omega
 refine h.done hy hy0 ?_;have h1:q*y0<=B*y0:=dQ _ (by omega)
 have h2:B*y0<=B*r:=jR _ (by omega)
 omega
theorem IL.start {B y1 y0:Nat} (hy:y=y1*B+y0) (hy1:0<y1) (hu:u<y) (ht:t<B):IL B y y1 y0 u t (u/y1) (u%y1):=by
 refine⟨by have:=jc u y1;rw[cv];omega,?_⟩
 rcases kH B with hB|hB
 ·subst hB;omega
 ·have:(u*B+t)/y<=(u*B+t)/(y1*B):=Nat.div_le_div_left (by omega) (qo hy1 hB)
  refine fw this ?_;rw[cv y1 B,<-ff,cv u B,yI hB,iZ ht];exact aA _
theorem IL.lt {B y y1 y0 u t q:Nat} (hy0:0<y) (hu:u<y) (ht:t<B) (h:q=(u*B+t)/y):q<B:=by
 rw[h];refine(je hy0).2 ?_;have:(u+1)*B<=y*B:=dQ _ hu;rw[dK]at this;rw[cv B y];omega
theorem IB {B y N u t1 t0 q1 q0 r1:Nat} (hB:0<B) (hy:0<y) (hN:N=u*(B*B)+t1*B+t0) (h1:q1=(u*B+t1)/y) (hr:r1=(u*B+t1)%y) (h0:q0=(r1*B+t0)/y):q1*B+q0=N/y/\(r1*B+t0)%y=N%y:=by
 have e:N=(r1*B+t0)+y*(q1*B):=by
  have:=jc (u*B+t1) y;rw[<-h1,<-hr]at this;have e2:(u*B+t1)*B=y*q1*B+r1*B:=by rw[<-this,dK]
  rw[hN,<-de,<-de y];rw[dK]at e2;omega
 rw[e,oZ _ _ hy,yP,<-h0];exact⟨by omega,rfl⟩
theorem sP (h0:0<y) (h:y<18446744073709551616):1<=Lib.bitLen y/\2^(Lib.bitLen y-1)<=y/\y<2^Lib.bitLen y:=Lib.bitLenAux_bounds 64 y h (by omega)
structure VQ (hi lo y s:Nat):Prop where
 s64:s<64
 yl:9223372036854775808<=y*2^s
 yh:y*2^s<18446744073709551616
 hil:hi*2^s+lo/2^(64-s)<y*2^s
 eq:(hi*18446744073709551616+lo)*2^s=(hi*2^s+lo/2^(64-s))*18446744073709551616+lo*2^s%18446744073709551616
 hs:hi*2^s<18446744073709551616
 ol:lo/2^(64-s)<2^s
theorem scaled {hi lo:Nat} (h:hi<y) (hlo:lo<18446744073709551616) (hy:y<18446744073709551616):VQ hi lo y (64-Lib.bitLen y):=by
 obtain⟨b1,b2,b3⟩:=sP (y:=y) (by omega) hy
 have b4:=Lib.bitLen_le y 64 (by decide) hy
 obtain⟨s,hs⟩: ∃s,s=64-Lib.bitLen y:=⟨_,rfl⟩;rw[<-hs];have e1:2^(Lib.bitLen y-1)*2^s=9223372036854775808:=by rw[<-dD,show Lib.bitLen y-1+s=63 by omega]
 have e2:2^Lib.bitLen y*2^s=18446744073709551616:=by rw[<-dD,show Lib.bitLen y+s=64 by omega]
 have e3:2^(64-s)*2^s=18446744073709551616:=by rw[<-dD,show 64-s+s=64 by omega]
 have hp:=EP s;have hp':=EP (64-s);have c1:9223372036854775808<=y*2^s:=by rw[<-e1];exact dQ _ b2
 have c2:y*2^s<18446744073709551616:=by rw[<-e2];exact EU b3 hp
 have c3:lo/2^(64-s)<2^s:=by
  refine(je hp').2 ?_;rw[cv,e3];exact hlo
 have c4:hi*2^s+2^s<=y*2^s:=by
  have:(hi+1)*2^s<=y*2^s:=dQ (2^s) h;rw[dK,iL]at this;exact this
 refine⟨by omega,c1,c2,by omega,?_,by omega,c3⟩
 have d1:=jc lo (2^(64-s));have d2:lo*2^s%18446744073709551616=lo%2^(64-s)*2^s:=by
  rw[<-e3,EO]
 have d3:lo*2^s=lo/2^(64-s)*18446744073709551616+lo%2^(64-s)*2^s:=by
  rw[<-e3];have:=congrArg (· *2^s) d1;simp only[dK]at this;rw[<-this,cv (2^(64-s)),de]
 rw[d2,dK,d3,dK];have:hi*18446744073709551616*2^s=hi*2^s*18446744073709551616:=by rw[de,cv 18446744073709551616,de]
 omega
theorem ku {u B t q y:Nat} (hq:q=(u*B+t)/y):(u*B+t)-q*y=(u*B+t)%y:=by
 have:=jc (u*B+t) y;rw[hq,cv _ y];omega
theorem r8 {z:Nat} (h1:z<=u*4294967296+t) (h2:u*4294967296+t-z<18446744073709551616):
  ((u*4294967296%18446744073709551616+t)%18446744073709551616+(18446744073709551616-z%18446744073709551616%18446744073709551616))%18446744073709551616=u*4294967296+t-z:=by omega
theorem Dq {u t q y:Nat} (hq:q=(u*4294967296+t)/y):q*y<=u*4294967296+t:=by rw[hq];exact sA _ _
theorem whole {N Y y s U V q1 q0 R:Nat} (hy:0<y) (hY:Y=y*2^s) (hN:N*2^s=U*18446744073709551616+V) (h1:q1=(U*4294967296+V/4294967296)/Y) (hR:R=(U*4294967296+V/4294967296)%Y) (h0:q0=(R*4294967296+V%4294967296)/Y):
  q1*4294967296+q0=N/y/\(R*4294967296+V%4294967296)%Y/2^s=N%y:=by
 have hp:=EP s;have hYp:0<Y:=by rw[hY];exact qo hy hp
 obtain⟨a,b⟩:=IB (B:=4294967296) (y:=Y) (N:=N*2^s) (u:=U) (t1:=V/4294967296) (t0:=V%4294967296) (by decide) hYp (by rw[hN];omega) h1 hR h0
 rw[a,b,hY];exact⟨Nat.mul_div_mul_right _ _ hp,by rw[EO,EV _ hp]⟩
def ad (a b:Nat):Nat:=(a+b)%4294967296
def CC (a b:Nat):Nat:=(a%4294967296)|||(b%4294967296)
def qI (a b:Nat):Nat:=(a%4294967296)^^^(b%4294967296)
def L1 (a b:Nat):Nat:=(a%4294967296)&&&(b%4294967296)
def n32 (a:Nat):Nat:=4294967295^^^(a%4294967296)
def xy (a k:Nat):Nat:=a*2^k%4294967296
theorem OZ (a b:Nat):CC a b=CC b a:=Nat.or_comm _ _
theorem nc (a:Nat):BitVec.ofInt 32 ((a%4294967296:Nat):Int)=BitVec.ofInt 32 (a:Int):=by
 rw[ib,ib];apply BitVec.eq_of_toNat_eq;simp
theorem Hu:IntKind.bits .u32=32:=rfl
theorem qL (a b:Nat):IntKind.u32.wrap ((a:Int)+(b:Int))=((ad a b:Nat):Int):=by rw[LV,ad];omega
theorem o_r (a b:Nat):HJ .u32 (a:Int) (b:Int)=((CC a b:Nat):Int):=by
 have h:=WR .u32 rfl (a:=a%4294967296) (b:=b%4294967296) (aV _ (by decide)) (aV _ (by decide))
 rw[CC,<-h,HJ,HJ,Hu,nc,nc]
theorem YW (a b:Nat):FV .u32 (a:Int) (b:Int)=((qI a b:Nat):Int):=by
 have h:=UX .u32 rfl (a:=a%4294967296) (b:=b%4294967296) (aV _ (by decide)) (aV _ (by decide))
 rw[qI,<-h,FV,FV,Hu,nc,nc]
theorem a_r (a b:Nat):nE .u32 (a:Int) (b:Int)=((L1 a b:Nat):Int):=by
 have h:=N2 .u32 rfl (a:=a%4294967296) (b:=b%4294967296) (aV _ (by decide)) (aV _ (by decide))
 rw[L1,<-h,nE,nE,Hu,nc,nc]
theorem n_r (a:Nat):IntKind.u32.wrap ((BitVec.ofInt 32 4294967295^^^BitVec.ofInt 32 (a:Int)).toNat:Int)=((n32 a:Nat):Int):=by
 have h:BitVec.ofInt 32 4294967295=BitVec.ofNat 32 4294967295:=rfl;have h2:4294967295^^^a%4294967296<2^32:=Nat.xor_lt_two_pow (by decide) (aV _ (by decide))
 rw[h,ib,BitVec.toNat_xor,lK,lK,n32,LV];simp only[Nat.reducePow,Nat.reduceMod]at*;omega
theorem l_r (a k:Nat):IntKind.u32.wrap ((a:Int)*2^k)=((xy a k:Nat):Int):=by
 rw[LV,xy];have:((2:Int)^k)=((2^k:Nat):Int):=by simp
 rw[this,<-Int.natCast_mul];omega
def qF:List Nat:=[0x428a2f98,0x71374491,0xb5c0fbcf,0xe9b5dba5,0x3956c25b,0x59f111f1,0x923f82a4,0xab1c5ed5,
 0xd807aa98,0x12835b01,0x243185be,0x550c7dc3,0x72be5d74,0x80deb1fe,0x9bdc06a7,0xc19bf174,
 0xe49b69c1,0xefbe4786,0x0fc19dc6,0x240ca1cc,0x2de92c6f,0x4a7484aa,0x5cb0a9dc,0x76f988da,
 0x983e5152,0xa831c66d,0xb00327c8,0xbf597fc7,0xc6e00bf3,0xd5a79147,0x06ca6351,0x14292967,
 0x27b70a85,0x2e1b2138,0x4d2c6dfc,0x53380d13,0x650a7354,0x766a0abb,0x81c2c92e,0x92722c85,
 0xa2bfe8a1,0xa81a664b,0xc24b8b70,0xc76c51a3,0xd192e819,0xd6990624,0xf40e3585,0x106aa070,
 0x19a4c116,0x1e376c08,0x2748774c,0x34b0bcb5,0x391c0cb3,0x4ed8aa4a,0x5b9cca4f,0x682e6ff3,
 0x748f82ee,0x78a5636f,0x84c87814,0x8cc70208,0x90befffa,0xa4506ceb,0xbef9a3f7,0xc67178f2]
def pK:List Nat:=[0x6a09e667,0xbb67ae85,0x3c6ef372,0xa54ff53a,0x510e527f,0x9b05688c,0x1f83d9ab,0x5be0cd19]
def rr (x n:Nat):Nat:=CC (x/2^n) (xy x (32-n))
def aaI (x:Nat):Nat:=qI (qI (rr x 7) (rr x 18)) (x/8)
def aaJ (x:Nat):Nat:=qI (qI (rr x 17) (rr x 19)) (x/1024)
def D9 (l:List Nat):Nat:=ad (ad (ad (l.getD (l.length-16) 0) (aaI (l.getD (l.length-15) 0))) (l.getD (l.length-7) 0)) (aaJ (l.getD (l.length-2) 0))
def LL:Nat->List Nat->List Nat
 |0,l=>l
 |n+1,l=>LL n (l++[D9 l])
def ya (blk:Bytes) (i:Nat):Nat:=num ((blk.drop (4*i)).take 4)
def sched (blk:Bytes):List Nat:=LL 48 ((List.range 16).map (ya blk))
def Qh (k w:Nat) (v:List Nat):Nat:=ad (ad (ad (ad (v.getD 7 0) (qI (qI (rr (v.getD 4 0) 6) (rr (v.getD 4 0) 11)) (rr (v.getD 4 0) 25))) (qI (L1 (v.getD 4 0) (v.getD 5 0)) (L1 (n32 (v.getD 4 0)) (v.getD 6 0)))) k) w
def Yp (v:List Nat):Nat:=ad (qI (qI (rr (v.getD 0 0) 2) (rr (v.getD 0 0) 13)) (rr (v.getD 0 0) 22)) (qI (qI (L1 (v.getD 0 0) (v.getD 1 0)) (L1 (v.getD 0 0) (v.getD 2 0))) (L1 (v.getD 1 0) (v.getD 2 0)))
def Qe (k w:Nat) (v:List Nat):List Nat:=[ad (Qh k w v) (Yp v),v.getD 0 0,v.getD 1 0,v.getD 2 0,ad (v.getD 3 0) (Qh k w v),v.getD 4 0,v.getD 5 0,v.getD 6 0]
def w9 (W:List Nat):Nat->List Nat->List Nat
 |0,v=>v
 |n+1,v=>w9 W n (Qe (qF.getD (63-n) 0) (W.getD (63-n) 0) v)
def sL (st:List Nat) (blk:Bytes):List Nat:=List.zipWith ad (w9 (sched blk) 64 st) st
def o9:Nat->Bytes->List Nat->List Nat
 |0,_,st=>st
 |n+1,m,st=>o9 n (m.drop 64) (sL st (m.take 64))
def pad (s:Bytes):Bytes:=s++128::(List.replicate ((119-s.length%64)%64) 0++be 8 (s.length*8))
def XL (w:Nat):Bytes:=[UInt8.ofNat (w/2^24),UInt8.ofNat (w/2^16),UInt8.ofNat (w/2^8),UInt8.ofNat w]
def mJ (s:Bytes):Bytes:=(o9 ((pad s).length/64) (pad s) pK).flatMap XL
theorem GM: ∀n l,(LL n l).length=l.length+n
 |0,l=>rfl
 |n+1,l=>by rw[LL,GM n];simp;omega
theorem nh (b:Bytes):(sched b).length=64:=by simp[sched,GM]
theorem Qg (k w:Nat) (v:List Nat):(Qe k w v).length=8:=rfl
theorem GL (W:List Nat): ∀n v,v.length=8->(w9 W n v).length=8
 |0,v,h=>h
 |n+1,v,h=>GL W n _ (Qg _ _ _)
theorem pJ {st:List Nat} (b:Bytes) (h:st.length=8):(sL st b).length=8:=by simp[sL,GL _ _ _ h,h]
theorem GK: ∀n m st,st.length=8->(o9 n m st).length=8
 |0,m,st,h=>h
 |n+1,m,st,h=>GK n _ _ (pJ _ h)
theorem DS (s:Bytes):(pad s).length=s.length+9+(119-s.length%64)%64:=by simp[pad,cX];omega
theorem Pe (s:Bytes):(pad s).length=(pad s).length/64*64:=by rw[DS];omega
theorem jH (s:Bytes):(mJ s).length=32:=by
 have h:=GK ((pad s).length/64) (pad s) pK rfl;unfold mJ;generalize o9 ((pad s).length/64) (pad s) pK=l at h;obtain⟨a,b,c,d,e,f,g,i,rfl⟩: ∃a b c d e f g i,l=[a,b,c,d,e,f,g,i]:=by
  match l,h with
  |[a,b,c,d,e,f,g,i],_=>exact⟨_,_,_,_,_,_,_,_,rfl⟩
 rfl
def iw (k:Nat) (parts:List Bytes):Bytes:=UInt8.ofNat k::(be 8 parts.length++parts.flatMap fun s=>be 8 s.length++s)
def mG (l:Bytes):Bytes:=mJ (iw 78 [l])
def cZ (st l d:Bytes):Bytes:=mJ (iw 65 [st,l,d])
def cY (st l:Bytes) (xs:List Bytes):Bytes:=mJ (iw 76 (st::l::xs))
def nV (x:Bool×Bytes):Bytes:=(if x.1 then 45 else 43)::x.2
def Ef (st l:Bytes) (xs:List (Bool×Bytes)):Bytes:=mJ (iw 73 (st::l::xs.map nV))
def ru (st:Bytes):Bytes:=mJ (iw 67 [st,be 8 0])
def ic (st bound:Bytes):Nat:=num ((ru st).take (bound.length+8))%num bound
theorem C2 (l:Bytes):(mG l).length=32:=jH _
theorem dT (st l d:Bytes):(cZ st l d).length=32:=jH _
theorem cL (st l:Bytes) (xs:List Bytes):(cY st l xs).length=32:=jH _
theorem Iy (st l:Bytes) (xs:List (Bool×Bytes)):(Ef st l xs).length=32:=jH _
theorem Bo (st:Bytes):(ru st).length=32:=jH _
def c9 (parts:List Bytes):Bytes:=parts.flatMap fun s=>be 8 s.length++s
theorem mC (l:List Bytes) (s:Bytes):c9 (l++[s])=c9 l++(be 8 s.length++s):=by simp[c9]
theorem nJ (l:List Bytes) {n:Nat} (h: ∀s∈l,s.length<=n):(c9 l).length<=l.length*(8+n):=by
 induction l with
 |nil=>simp[c9]
 |cons x l ih=>
  have h1:=ih fun s hs=>h s (ju _ hs)
  have h2:=h x (by simp)
  have e:(c9 (x::l)).length=8+x.length+(c9 l).length:=by simp[c9,cX];omega
  rw[e,List.length_cons,lJ];omega
theorem Fi (N k:Nat) (h:k<8):(be 8 N).take (k+1)=(be 8 N).take k++[UInt8.ofNat (N/256^(7-k))]:=by
 match k,h with
 |0,_=>rfl
 |1,_=>rfl
 |2,_=>rfl
 |3,_=>rfl
 |4,_=>rfl
 |5,_=>rfl
 |6,_=>rfl
 |7,_=>rfl
end Go.Dom
namespace Go.Dom
open Go
variable {a b k v:Nat} {f g:Nat->Nat}
def dv (x k:Nat):Nat:=x/256^k%256
def ym (x:Int) (k:Nat):Int:=x/256^k%256
theorem yn (x k:Nat):ym x k=(dv x k:Nat):=by
 unfold ym dv;rw[Int.natCast_emod,Int.natCast_ediv,Int.natCast_pow];rfl
theorem I9 (x:Int) (k:Nat):0<=ym x k/\ym x k<256:=⟨jz _ (by decide),kQ _ (by decide)⟩
theorem Ll (i:Nat):(0:Int)<256^i:=Int.pow_pos (by decide)
def cy (U V a:Int) (i:Nat):Int:=(U%256^i+a*(V%256^i))/256^i
theorem I7 (U V a:Int):cy U V a 0=0:=by simp[cy,Int.emod_one]
theorem Hz (U V a:Int) (i:Nat):(U+a*V)/256^i=cy U V a i+(U/256^i+a*(V/256^i)):=by
 have hB:=Ll i;unfold cy;have e1:=oU U (256^i);have e2:=oU V (256^i);have e:U+a*V=(U%256^i+a*(V%256^i))+256^i*(U/256^i+a*(V/256^i)):=by
  rw[mV,E0 (256^i) a];have:a*V=a*(V%256^i)+a*(256^i*(V/256^i)):=by rw[<-mV,e2]
  omega
 rw[e,zk _ _ (Int.ne_of_gt hB)]
theorem Sj (U V a:Int) (i:Nat):cy U V a (i+1)=(ym U i+a*ym V i+cy U V a i)/256:=by
 have hB:=Ll i;have h (W:Int):W%256^(i+1)=W%256^i+256^i*ym W i:=by
  unfold ym;refine((EF (q:=W/256^i/256) (Ll (i+1))).2 ⟨?_,?_,?_⟩).2
  ·have e1:=oU W (256^i);have e2:=oU (W/256^i) 256;have:256^i*(W/256^i)=256^i*(W/256^i%256)+256^i*(256*(W/256^i/256)):=by rw[<-mV,e2]
   rw[Int.pow_succ,mY];omega
  ·have:=jz W (Int.ne_of_gt hB);have:=Int.mul_nonneg (Int.le_of_lt hB) (jz (W/256^i) (by decide:(256:Int)≠0))
   omega
  ·have h1:=kQ W hB;have h2:=kQ (W/256^i) (by decide:(0:Int)<256)
   have h3:256^i*(W/256^i%256)<=256^i*255:=Int.mul_le_mul_of_nonneg_left (by omega) (Int.le_of_lt hB)
   rw[Int.pow_succ];omega
 have e:U%256^(i+1)+a*(V%256^(i+1))=(U%256^i+a*(V%256^i))+256^i*(ym U i+a*ym V i):=by
  rw[h U,h V,mV,mV,E0 a];omega
 show(_+ _)/ _= _;rw[e,Int.pow_succ,<-Int.ediv_ediv_of_nonneg (Int.le_of_lt hB),zk _ _ (Int.ne_of_gt hB)];congr 1;unfold cy;omega
theorem I6 (U V a:Int) (i:Nat):ym U i+a*ym V i+cy U V a i=256*cy U V a (i+1)+ym (U+a*V) i:=by
 have h1:=Sj U V a i;have h2:=Hz U V a i;have e:ym (U+a*V) i=(ym U i+a*ym V i+cy U V a i)%256:=by
  unfold ym;rw[h2];have e1:=oU (U/256^i) 256;have e2:=oU (V/256^i) 256;have e3:a*(V/256^i)=a*(V/256^i%256)+256*(a*(V/256^i/256)):=by
   rw[E0,<-mV,e2]
  have:cy U V a i+(U/256^i+a*(V/256^i))=(U/256^i%256+a*(V/256^i%256)+cy U V a i)+256*(U/256^i/256+a*(V/256^i/256)):=by omega
  rw[this,sk]
 rw[h1,e];omega
theorem NZ {R D n:Nat} (hn:1<=n) (h1:128*256^(n-1)<=D) (h2:D<256^n) (hR:R<256*D):
  128<=dv D (n-1)/\R/D<=(dv R n*256+dv R (n-1))/dv D (n-1)/\R/D<=255:=by
 obtain⟨k,rfl⟩: ∃k,n=k+1:=⟨n-1,by omega⟩
 rw[sB]at h1⊢;have hB:0<256^k:=iJ (by decide)
 rw[Nat.pow_succ]at h2;have hD0:0<D:=by omega
 have v1:D/256^k<256:=by rw[je hB];omega
 have v2:128<=D/256^k:=(vD hB).2 h1;have v3:dv D k=D/256^k:=bV v1;have u1:R/256^k<65536:=by rw[je hB];omega
 have u3:dv R (k+1)*256+dv R k=R/256^k:=by
  unfold dv;rw[Nat.pow_succ,<-ff];clear v1 v2 v3 h1 h2;generalize R/256^k=y at*;omega
 rw[v3,u3];have hRD:R/D<256:=by
  rw[je hD0];exact hR
 refine⟨v2,?_,by omega⟩
 rw[vD (by omega),vD hB,de]
 exact fw (jR _ (sA _ _)) (sA _ _)
theorem Fw (x i s:Nat) (hs:s<=7):dv (x*2^s) (i+1)=dv x (i+1)*2^s%256+dv x i/2^(8-s):=by
 unfold dv;have hB:0<256^i:=iJ (by decide)
 obtain⟨y,hy⟩: ∃y,y=x/256^i:=⟨_,rfl⟩;obtain⟨e,he,hlt⟩: ∃e,x*2^s/256^i=y*2^s+e/\e<2^s:=by
  refine⟨x%256^i*2^s/256^i,?_,?_⟩
  ·have:x*2^s=x%256^i*2^s+256^i*(y*2^s):=by
    rw[<-de,<-dK,hy,Nat.mod_add_div]
   rw[this,oZ _ _ hB,iM]
  ·rw[je hB,cv];exact J7 (aV _ hB) (iJ (by decide))
 rw[Nat.pow_succ,<-ff,<-ff,he,<-hy];clear hy he hB;obtain rfl|rfl|rfl|rfl|rfl|rfl|rfl|rfl:s=0\/s=1\/s=2\/s=3\/s=4\/s=5\/s=6\/s=7:=by omega
 all_goals simp only[Nat.pow_zero,Nat.reducePow,Nat.reduceSub]at hlt⊢;omega
theorem Cj (x s:Nat):dv (x*2^s) 0=dv x 0*2^s%256:=by
 unfold dv;rw[Nat.pow_zero,jx,jx,jt]
theorem HD (x i s:Nat) (hs:s<=7):(dv x i+dv x (i+1)*256)/2^s%256=dv (x/2^s) i:=by
 unfold dv;rw[ff,cv (2^s),<-ff,Nat.pow_succ,<-ff];generalize x/256^i=y;obtain rfl|rfl|rfl|rfl|rfl|rfl|rfl|rfl:s=0\/s=1\/s=2\/s=3\/s=4\/s=5\/s=6\/s=7:=by omega
 all_goals simp only[Nat.pow_zero,Nat.reducePow];omega
theorem qy (x k:Nat):dv x k<256:=aV _ (by decide)
theorem HC {x:Nat} (h:x<256^k):dv x k=0:=by unfold dv;rw[iZ h]
def dl (N:Nat) (f:Nat->Nat):List Nat:=(List.range N).map f
theorem nB (N:Nat) (f:Nat->Nat):(dl N f).length=N:=by simp[dl]
theorem wB {N:Nat} (h:k<N):(dl N f).getD k 0=f k:=by simp[dl,bu,h]
theorem zX {N:Nat} (h: ∀k,k<N->f k=g k):dl N f=dl N g:=mW fun k hk=>h k (fV.1 hk)
theorem Dr {N:Nat} {p:Nat} (hv:p<N->g p=v) (h: ∀k,k<N->k≠p->g k=f k):(dl N f).set p v=dl N g:=by
 refine vO (by simp[dl]) fun k h1 h2=> ?_
 have hk:k<N:=by simpa[dl]using h2
 rw[List.getElem_set]
 by_cases hp:p=k
 ·subst hp;simp[dl,hv hk]
 ·rw[aa hp];simp[dl,h k hk (fun e=>hp e.symm)]
def dX (f:Nat->Nat) (j i:Nat) (X:Int) (k:Nat):Nat:=if j<=k/\k<j+i then(ym X (k-j)).toNat else f k
theorem I8 (f:Nat->Nat) (j:Nat) (X:Int):dX f j 0 X=f:=by funext k;unfold dX;rw[aa (by omega)]
theorem Np {N:Nat} (f:Nat->Nat) (j i:Nat) (X:Int) (hv:(v:Int)=ym X i):(dl N (dX f j i X)).set (i+j) v=dl N (dX f j (i+1) X):=by
 refine Dr (fun _=> ?_) fun k _ hk=> ?_
 ·unfold dX;rw[af (by omega),show i+j-j=i by omega,<-hv,Int.toNat_natCast]
 ·unfold dX
  by_cases h:j<=k/\k<j+i
  ·rw[af h,af (by omega)]
  ·rw[aa h,aa (by omega)]
theorem UQ (f:Nat->Nat) (j i:Nat) (X:Int):dX f j i X (i+j)=f (i+j):=by unfold dX;rw[aa (by omega)]
theorem ZM (f:Nat->Nat) {j i n:Nat} (X:Int) (h:i<n):((dX f j n X (i+j):Nat):Int)=ym X i:=by
 unfold dX;rw[af (by omega),show i+j-j=i by omega]
 have:=(I9 X i).1;omega
theorem WC (f:Nat->Nat) (j n:Nat) (X:Int):dX f j n X (j+n)=f (j+n):=by unfold dX;rw[aa (by omega)]
theorem Sl {R j n X:Nat} (hR:R<256^(j+n+1)) (hX:X<256^n) (k:Nat):(if k=j+n then 0 else dX (dv R) j n X k)=dv (X*256^j+R%256^j) k:=by
 have hj:0<256^j:=iJ (by decide)
 have hlo:R%256^j<256^j:=aV _ hj
 by_cases hk:k<j
 ·rw[aa (by omega),dX,aa (by omega)]
  obtain⟨d,rfl⟩: ∃d,j=k+1+d:=⟨j-k-1,by omega⟩
  have e1:X*256^(k+1+d)+R%256^(k+1+d)=R%256^(k+1+d)+256^(k+1)*(256^d*X):=by
   rw[<-de,<-dD,cv X];omega
  have e2 (Y:Nat):dv Y k=Y%256^(k+1)/256^k:=by
   unfold dv;rw[Nat.pow_succ,sf]
  rw[e2,e2,e1,yP,vA _ (EW 256 (by omega))]
 ·obtain⟨d,rfl⟩: ∃d,k=j+d:=⟨k-j,by omega⟩
  have e:dv (X*256^j+R%256^j) (j+d)=dv X d:=by
   unfold dv;rw[dD,<-ff,iM,cv X,oZ _ _ hj,iZ hlo,eX]
  rw[e]
  by_cases hd:d=n
  ·subst hd;rw[af rfl,HC hX]
  ·rw[aa (by omega)]
   unfold dX
   by_cases hdn:d<n
   ·rw[af (by omega),Nat.add_sub_cancel_left,yn,Int.toNat_natCast]
   ·rw[aa (by omega),HC (bM hX (dp (by decide) (by omega))),HC (bM hR (dp (by decide) (by omega)))]
theorem DA (h:a<9223372036854775808):nE .i64 (a:Int) 255=((a%256:Nat):Int):=by
 unfold nE;have h1:(BitVec.ofInt 64 (a:Int)&&&BitVec.ofInt 64 255).toNat=a%256:=by
  rw[BitVec.toNat_and,BitVec.ofInt_natCast,lK,show(BitVec.ofInt 64 255).toNat=2^8-1 from rfl,bV (by omega),J8]
 show IntKind.i64.wrap ((BitVec.ofInt 64 (a:Int)&&&BitVec.ofInt 64 255).toNat:Int)= _;rw[h1,IntWalk.i64_in _ (by omega)]
theorem ZW (ha:a<9223372036854775808) (hb:b<9223372036854775808):HJ .i64 (a:Int) (b:Int)=((a|||b:Nat):Int):=by
 unfold HJ;have h1:(BitVec.ofInt 64 (a:Int)|||BitVec.ofInt 64 (b:Int)).toNat=a|||b:=by
  rw[BitVec.toNat_or,BitVec.ofInt_natCast,BitVec.ofInt_natCast,lK,lK,bV (by omega),bV (by omega)]
 show IntKind.i64.wrap ((BitVec.ofInt 64 (a:Int)|||BitVec.ofInt 64 (b:Int)).toNat:Int)= _;have h2:a|||b<2^63:=Nat.or_lt_two_pow (by omega) (by omega)
 rw[h1,IntWalk.i64_in _ (by omega)]
theorem orS {a b s:Nat} (hs:s<=8) (ha:a<256) (hb:b<2^s):HJ .i64 ((a*2^s:Nat):Int) (b:Int)=((a*2^s+b:Nat):Int):=by
 have h1:2^s<=2^8:=dp (by decide) hs
 have h2:a*2^s<=256*2^8:=lD (lH ha) h1;rw[ZW (by omega) (by omega),cv,<-J5 hb]
theorem orL (ha:a<256) (hb:b<256):HJ .i64 (b:Int) ((a*256:Nat):Int)=((b+a*256:Nat):Int):=by
 rw[ZW (by omega) (by omega),Nat.or_comm,cv,<-J5 (i:=8) hb]
 omega
