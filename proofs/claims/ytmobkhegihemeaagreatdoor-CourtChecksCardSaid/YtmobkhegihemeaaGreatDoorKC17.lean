/-
  Part of the proof, part KC17. Own work.
-/
import Derived.Test.YtmobkhegihemeaaGreatDoorKC16
set_option linter.all false
namespace Go.Dom
theorem SF (x:Int):IntKind.u8.wrap x=x%256:=uI x
theorem OV (x:Int):IntKind.u32.wrap x=x%4294967296:=IntKind.wrap_u32 x
theorem C5 (x:Int):IntKind.u64.wrap x=x%18446744073709551616:=by simp[IntKind.wrap,IntKind.bits,IntKind.signed]
theorem zt (a b:Nat):(a:Int).fdiv (b:Int)=((a/b:Nat):Int):=by
 rw[Ge _ (by omega)];rfl
theorem Nb (a k:Nat):(a:Int).fdiv (2^k)=((a/2^k:Nat):Int):=by
 have:((2:Int)^k)=((2^k:Nat):Int):=by simp
 rw[this,zt]
theorem jO (a:Nat):IntKind.u8.wrap (a:Int)=((UInt8.ofNat a).toNat:Int):=by
 rw[SF,ga];omega
theorem fw (w a:Nat):BitVec.ofInt w (a:Int)=BitVec.ofNat w a:=BitVec.ofInt_natCast w a
theorem Ly (k:IntKind) (hk:k.signed=false) (x:Nat):k.wrap (x:Int)=((x%2^k.bits:Nat):Int):=by
 simp[IntKind.wrap,hk]
theorem Q4 (k:IntKind) (hk:k.signed=false) {a b:Nat} (ha:a<2^k.bits) (hb:b<2^k.bits):DC k (a:Int) (b:Int)=((a|||b:Nat):Int):=by
 rw[DC,fw,fw,BitVec.toNat_or,jB,jB,bA ha,bA hb,Ly k hk,bA (Nat.or_lt_two_pow ha hb)]
theorem JM (k:IntKind) (hk:k.signed=false) {a b:Nat} (ha:a<2^k.bits) (hb:b<2^k.bits):kR k (a:Int) (b:Int)=((a&&&b:Nat):Int):=by
 rw[kR,fw,fw,BitVec.toNat_and,jB,jB,bA ha,bA hb,Ly k hk,bA (Nat.and_lt_two_pow _ hb)]
theorem Po (k:IntKind) (hk:k.signed=false) {a b:Nat} (ha:a<2^k.bits) (hb:b<2^k.bits):BP k (a:Int) (b:Int)=((a^^^b:Nat):Int):=by
 rw[BP,fw,fw,BitVec.toNat_xor,jB,jB,bA ha,bA hb,Ly k hk,bA (Nat.xor_lt_two_pow ha hb)]
theorem B9 {x c k:Nat} (h:c<2^k):x*2^k|||c=x*2^k+c:=by
 rw[←Nat.shiftLeft_eq,Nat.shiftLeft_add_eq_or_of_lt h]
theorem Ix (x k:Nat):x&&&(2^k-1)=x%2^k:=Gc x k
theorem mU (l:List PV):chunk 1 l.length l=l:=by
 induction l with
 |nil=>rfl
 |cons x r ih=>simp[chunk,ih]
theorem CZ {hf:Nat→Option ax} {f n ver:Nat} {l:Bytes} {gr:Bool} {el:Option TypeId} {m:Nat} (hm:m=l.length) (h:hf n=some ⟨ver,aC l,gr,el⟩):
  view hf (f+2) (.rs n ver 0 m 1)=some (.sl (l.map u8)):=by
 subst hm;have h1:aQ (view hf (f+1)) (aC l)=some (l.map u8):=by
  have:=eF hf f (l.map u8);rw[jE]at this;exact this
 have h2:(aC l).all AV.one=true:=by simp[aC,AV.one,PV.one,u8]
 have h3:chunk 1 l.length (l.map u8)=l.map u8:=by have:=mU (l.map u8);simpa using this
 simp[view,h,kO,h2,iD,h1,h3]
theorem An {hf:Nat→Option ax} {f n ver:Nat} {l:Bytes} {gr:Bool} {el:Option TypeId} {m:Nat} (hm:m=l.length) (h:hf n=some ⟨ver,aC l,gr,el⟩):
  aN hf (f+2) (.rs n ver 0 m 1)=[n]:=by
 subst hm;have h1:(aC l).flatMap (aN hf (f+1))=[]:=by
  unfold aC
  induction l with
  |nil=>rfl
  |cons x r ih=>simp_all[aN]
 simp[aN,h,iD,h1]
theorem fT {P:Program} [bT P] {Q:AX→AS→Prop} {nx:Nat} {bf:Option (List Nat)} {nn:Nat} {d:Option Nat} {ops:List iK} {k:Nat} {s:AS} {tr:List (Nat×List Nat×List Nat)} {K:List Fr} {nm:Nat} {f:FuncId} {n ver m:Nat} {l:Bytes} {gr:Bool} {el:Option TypeId} {r:PV}
  (he:aD P f [.sl (l.map u8)] r) (hr:r.flat=true) (hg:ar s.h n=some ⟨ver,aC l,gr,el⟩) (hm:m=l.length) (hK:RW P Q nx bf nn ops (k+1) (s.sM d (.v r) []) (yY bf k [n] [] tr) K):
  CR P Q nx bf nn nm (.v (.fn (.func f))) [.rs n ver 0 m 1] d ops k s tr K:=by
 refine tJ he ?_ hr ?_
 ·simp[aQ,CZ hm hg]
 ·have:[AV.rs n ver 0 m 1].flatMap (aN (ar s.h) 9)=[n]:=by simp[An hm hg]
  rw[this];exact hK
theorem qc {l:Bytes} {o:Nat} {x:Int} {c:UInt8} (h:o<l.length) (hx:x=(c.toNat:Int)):(aC l).take o++[.v (.i .u8 x)]++(aC l).drop (o+1)=aC (l.set o c):=by
 subst hx;unfold aC;rw[qV,um];simp[h,u8]
theorem Tx (a n:Nat):(a:Int).fdiv (no_index (OfNat.ofNat n))=((a/(OfNat.ofNat n):Nat):Int):=zt a n
theorem Uk (a b:Nat):(a:Int).tdiv (b:Int)=((a/b:Nat):Int):=rfl
theorem Um (a b:Nat):(a:Int).tmod (b:Int)=((a%b:Nat):Int):=rfl
theorem Uj (a n:Nat):(a:Int).tdiv (no_index (OfNat.ofNat n))=((a/(OfNat.ofNat n):Nat):Int):=rfl
theorem Ul (a n:Nat):(a:Int).tmod (no_index (OfNat.ofNat n))=((a%(OfNat.ofNat n):Nat):Int):=rfl
theorem uw (a:Nat):IntKind.u64.wrap (a:Int)=((a%18446744073709551616:Nat):Int):=by rw[C5];omega
theorem xQ (a b:Nat):IntKind.u64.wrap ((a:Int)*(b:Int))=((a*b%18446744073709551616:Nat):Int):=by rw[←Int.natCast_mul,uw]
theorem qx (a n:Nat):IntKind.u64.wrap ((a:Int)*(no_index (OfNat.ofNat n)))=((a*(OfNat.ofNat n)%18446744073709551616:Nat):Int):=xQ a n
theorem wF (a n:Nat):IntKind.u64.wrap ((no_index (OfNat.ofNat n))*(a:Int))=(((OfNat.ofNat n)*a%18446744073709551616:Nat):Int):=xQ n a
theorem Ei (a k:Nat):IntKind.u64.wrap ((a:Int)*2^k)=((a*2^k%18446744073709551616:Nat):Int):=by
 have:=xQ a (2^k);simpa using this
theorem Bg (a b:Nat):IntKind.u64.wrap ((a:Int)+(b:Int))=(((a+b)%18446744073709551616:Nat):Int):=by rw[←Int.natCast_add,uw]
theorem uV (a n:Nat):IntKind.u64.wrap ((a:Int)+(no_index (OfNat.ofNat n)))=(((a+(OfNat.ofNat n))%18446744073709551616:Nat):Int):=Bg a n
theorem Ag (a b:Nat):IntKind.u64.wrap ((a:Int)-(b:Int))=(((a+(18446744073709551616-b%18446744073709551616))%18446744073709551616:Nat):Int):=by rw[C5];omega
theorem xt (a n:Nat):IntKind.u64.wrap ((a:Int)-(no_index (OfNat.ofNat n)))=(((a+(18446744073709551616-(OfNat.ofNat n)%18446744073709551616))%18446744073709551616:Nat):Int):=Ag a n
theorem xr (a n:Nat):IntKind.u64.wrap ((no_index (OfNat.ofNat n))-(a:Int))=((((OfNat.ofNat n)+(18446744073709551616-a%18446744073709551616))%18446744073709551616:Nat):Int):=Ag n a
theorem Vi (a b:Nat):kR .u64 (a:Int) (b:Int)=(((a%18446744073709551616)&&&(b%18446744073709551616):Nat):Int):=by
 have h:=JM .u64 rfl (a:=a%18446744073709551616) (b:=b%18446744073709551616) (aG _ (by decide)) (aG _ (by decide))
 rw[←h];unfold kR;simp only[fw];congr 4<;>(apply BitVec.eq_of_toNat_eq;simp[IntKind.bits])
theorem pg (a:Nat):kR .u64 (a:Int) 4294967295=((a%4294967296:Nat):Int):=by
 have h:=Vi a 4294967295;have e:(a%18446744073709551616)&&&(4294967295%18446744073709551616)=a%4294967296:=by
  have:=Ix (a%18446744073709551616) 32;rw[show(4294967295%18446744073709551616:Nat)=2^32-1 from rfl,this];omega
 rw[e]at h;exact h
theorem Wb {x:Nat} (h:x<256):IntKind.u8.wrap (x:Int)=(x:Int):=IntWalk.u8_in _ (by omega)
attribute [go_sem] Tx Nb Uk Um Uj Ul
def aB (k:IntKind) (l:List Nat):List AV:=l.map fun x:Nat=> .v (.i k (x:Int))
theorem aV (k:IntKind) (l:List Nat):(aB k l).length=l.length:=by simp[aB]
theorem py (k:IntKind) (n:Nat):(List.replicate n [AV.v (PV.i k 0)]).flatten=aB k (List.replicate n 0):=by
 induction n with
 |zero=>rfl
 |succ n ih=>simp[List.replicate_succ,aB]at ih⊢
theorem da {k:IntKind} {l:List Nat} {i:Nat} (h:i<l.length):(aB k l).getD i .u= .v (.i k (l.getD i 0:Nat)):=by
 simp[aB,aX,h]
theorem dW {k:IntKind} {l:List Nat} {o x:Nat} {y:Int} (h:o<l.length) (hy:y=(x:Int)):(aB k l).take o++[.v (.i k y)]++(aB k l).drop (o+1)=aB k (l.set o x):=by
 subst hy;unfold aB;rw[qV,um];simp[h]
theorem aq (k:IntKind) (l:List Nat) (n:Nat):(∀y,y∈aB k l→y.bd n=true)=True:=by
 simp only[eq_iff_iff,iff_true];intro y hy;obtain⟨c,-,rfl⟩:=a5.1 hy;rfl
theorem Cn (f:Nat→Option Nat) (k:IntKind) (l:List Nat):AV.aI.renL f (aB k l)=some (aB k l):=by
 induction l with
 |nil=>rfl
 |cons c l ih=>
  have:AV.aI.renL f (AV.v (.i k c)::aB k l)=some (AV.v (.i k c)::aB k l):=by simp[AV.aI.renL,AV.aI,ih]
  exact this
structure Hid (p:Prop):Prop where
 v:p
end Go.Dom
namespace Go.Dom
open Go.RowKit
section
variable {P:Program} [bT P] {Q:AX→AS→Prop}
theorem cP {nx:Nat} {bf:Option (List Nat)} {n:Nat} {d:Option Nat} {ops:List iK} {k:Nat} {s:AS} {tr:List (Nat×List Nat×List Nat)} {K:List Fr} {nm:Nat} {f:FuncId} {avs:List AV} {pvs:List PV} {r:PV} (he:aD P f pvs r) (hK:RW P Q nx bf n ops (k+1) (s.sM d (.v r) []) (yY bf k [] [] tr) K) (ha:mz avs=some pvs:=by exact rfl):
  CR P Q nx bf n nm (.v (.fn (.func f))) avs d ops k s tr K:=dF he ha hK
theorem cV {nx:Nat} {bf:Option (List Nat)} {n:Nat} {d:Option Nat} {ops:List iK} {k:Nat} {s:AS} {tr:List (Nat×List Nat×List Nat)} {K:List Fr} {nm:Nat} {f:FuncId} {avs:List AV} {pvs:List PV} {r:PV} (he:aD P f pvs r) (hK:RW P Q nx bf n ops (k+1) (s.sM d (.v r) []) (yY bf k (avs.flatMap (aN (ar s.h) 9)) [] tr) K) (ha:aQ (view (ar s.h) 9) avs=some pvs:=by exact rfl) (hr:r.flat=true:=by exact rfl):
  CR P Q nx bf n nm (.v (.fn (.func f))) avs d ops k s tr K:=tJ he ha hr hK
theorem bP:(∀(c:Bool) (κ:BK),c=true→BX P Q c κ=BX P Q true κ)∧(∀(c:Bool) (κ:BK),c=false→BX P Q c κ=BX P Q false κ)∧(∀(p:Prop) (κ:BK),p→PX P Q p κ=BX P Q true κ)∧(∀(p:Prop) (κ:BK),¬p→PX P Q p κ=BX P Q false κ):=
 ⟨fun _ _ h=>LO h,fun _ _ h=>LM h,fun _ _ h=>Il h,fun _ _ h=>Ik h⟩
theorem pX {p:Prop} {κ:BK} (h1:p→BX P Q true κ) (h2: ¬p→BX P Q false κ):PX P Q p κ:=PX.mk h1 h2
theorem bX {c:Bool} {κ:BK} (h1:c=true→BX P Q true κ) (h2:c=false→BX P Q false κ):BX P Q c κ:=BX.mk h1 h2
end
theorem bW:(∀n:Int,-9223372036854775808≤n∧n≤9223372036854775807→IntKind.i64.wrap n=n)∧(∀n:Int,0≤n∧n≤18446744073709551615→IntKind.u64.wrap n=n):=⟨IntWalk.i64_in,IntWalk.u64_in⟩
theorem sB {p q:Prop} (h:q) (e:p=q:=by simp(disch:=first|assumption|omega) only[bP,bW]<;>rfl):p:=e▸h
theorem oD {p:Prop} (h:p:=by first|omega|decide):p:=h
theorem lE {t t':List (Nat×AV)} {h h':List (Nat×ax)} {n n':Nat} (hn:n≤n':=by first|decide|omega) (ht:cl t' n t:=by simp[cl,cj,aF,ar,AV.bd,AV.bd.bdL,u8,ah,ai,aq]) (hh:cj h' n h:=by simp[cl,cj,aF,ar,AV.bd,AV.bd.bdL,u8,ah,ai,aq]):(AS.mk t h n).Le ⟨t',h',n'⟩:=AS.Le.of hn ht hh
end Go.Dom
namespace Go.Dom
def num:Bytes→Nat
 |[]=>0
 |x::r=>x.toNat*256^r.length+num r
def be:Nat→Nat→Bytes
 |0,_=>[]
 |k+1,n=>UInt8.ofNat (n/256^k)::be k n
def fZ:Bytes→Bytes
 |[]=>[]
 |x::r=>if x=0 then fZ r else x::r
def aP (n:Nat):Bytes:=fZ (be (n.log2/8+1) n)
def aa (a:Bytes):Bool:=decide (a.length≤128)&&(a.length==0||a.headD 0 !=0)
theorem b9 (k n:Nat):(be k n).length=k:=by induction k<;>simp_all[be]
theorem iq (k:Nat):0<256^k:=fL (by decide)
theorem bV (a:Bytes):num a<256^a.length:=by
 induction a with
 |nil=>decide
 |cons x r ih=>
  simp only[num,List.length_cons,Nat.pow_succ];have:=x.toNat_lt;have h2:x.toNat*256^r.length≤255*256^r.length:=cC _ (by omega)
  omega
theorem wH (a b:Bytes):num (a++b)=num a*256^b.length+num b:=by
 induction a with
 |nil=>simp[num]
 |cons x r ih=>simp only[List.cons_append,num,ih,bC,ct,cr,bY];omega
theorem B4 (a:Bytes) (x:UInt8):num (a++[x])=num a*256+x.toNat:=by simp[wH,num]
theorem wI (k n:Nat):num (be k n)=n%256^k:=by
 induction k with
 |zero=>simp[be,num,kE]
 |succ k ih=>
  simp only[be,num,b9,ih,ga];have h:=nr (x:=n) (a:=256^k) (b:=256);rw[show(256:Nat)^(k+1)=256^k*256 from Nat.pow_succ ..,h,a7 (256^k)]
  show n/256^k%256*256^k+n%256^k= _;omega
theorem y7 (a:Bytes):be a.length (num a)=a:=by
 induction a with
 |nil=>rfl
 |cons x r ih=>
  have h:num (x::r)=x.toNat*256^r.length+num r:=rfl;have h1:=bV r;have h2:num (x::r)/256^r.length=x.toNat:=by
   rw[h,a7,uH (iq _),gn h1];omega
  have h3: ∀k m m',m%256^k=m'%256^k→be k m=be k m':=by
   intro k
   induction k with
   |zero=>intros;rfl
   |succ k ih=>
    intro m m' hm;have e1:m/256^k%256=m'/256^k%256:=by
     rw[Nat.pow_succ]at hm;have a1:=nr (x:=m) (a:=256^k) (b:=256);have a2:=nr (x:=m') (a:=256^k) (b:=256);have b1:m%(256^k*256)/256^k=m/256^k%256:=by rw[oU]
     have b2:m'%(256^k*256)/256^k=m'/256^k%256:=by rw[oU]
     rw[←b1,←b2,hm]
    have e2:m%256^k=m'%256^k:=by
     have a1:m%256^(k+1)%256^k=m%256^k:=rq _ (AF 256 (Nat.le_succ k));have a2:m'%256^(k+1)%256^k=m'%256^k:=rq _ (AF 256 (Nat.le_succ k));rw[←a1,←a2,hm]
    simp only[be,ih m m' e2];congr 1;apply jd.1;simpa using e1
  simp only[List.length_cons,be,h2];rw[show UInt8.ofNat x.toNat=x by simp,h3 r.length (num (x::r)) (num r) (by rw[h,Nat.mul_add_mod_self_right]),ih]
theorem xy (a:Bytes): ∃k,a=List.replicate k 0++fZ a∧(fZ a=[]∨(fZ a).headD 0≠0):=by
 induction a with
 |nil=>exact⟨0,rfl, .inl rfl⟩
 |cons x r ih=>
  simp only[fZ];split
  ·rename_i h;subst h;obtain⟨k,e,h⟩:=ih;exact⟨k+1,by simp[List.replicate_succ,←e],h⟩
  ·rename_i h;exact⟨0,rfl, .inr h⟩
theorem Hm (k:Nat) (a:Bytes):num (List.replicate k 0++a)=num a:=by
 induction k with
 |zero=>rfl
 |succ k ih=>simp[List.replicate_succ,num,ih]
theorem B5 (a:Bytes):num (fZ a)=num a:=by
 obtain⟨k,e,-⟩:=xy a
 conv=>rhs;rw[e,Hm]
def Canon (a:Bytes):Prop:=a=[]∨a.headD 0≠0
theorem xz (a:Bytes):Canon (fZ a):=by obtain⟨k,-,h⟩:=xy a;exact h
theorem mF {a:Bytes} (h:Canon a) (hne:a≠[]):256^(a.length-1)≤num a:=by
 cases a with
 |nil=>exact absurd rfl hne
 |cons x r=>
  rcases h with h|h
  ·cases h
  ·have hx:0<x.toNat:=by
    rcases jR x.toNat with e|e
    ·exact absurd (jd.1 e:x=0) h
    ·exact e
   simp only[num,List.length_cons,kn];have:=cC (256^r.length) hx;omega
theorem rT {a b:Bytes} (ha:Canon a) (hb:Canon b) (h:num a=num b):a=b:=by
 have key: ∀{a b:Bytes},Canon a→Canon b→num a=num b→a.length≤b.length:=by
  intro a b ha hb h
  by_cases hne:a=[]
  ·subst hne;simp
  ·have h1:=mF ha hne;have h2:=bV b;have h3:256^(a.length-1)<256^b.length:=by omega
   have:=(oN (by decide:1<256)).1 h3
   omega
 have hl:a.length=b.length:=Au (key ha hb h) (key hb ha h.symm);have h1:=y7 a;rw[h,hl,y7 b]at h1;exact h1.symm
theorem NA (n:Nat):n<256^(n.log2/8+1):=by
 have h1:n<2^(n.log2+1):=rp;have h2:(256:Nat)^(n.log2/8+1)=2^(8*(n.log2/8+1)):=by rw[jb]
 rw[h2];exact a9 h1 (cQ (by decide) (by omega))
theorem aK (n:Nat):num (aP n)=n:=by
 rw[aP,B5,wI];exact bA (NA n)
theorem gH (n:Nat):Canon (aP n):=xz _
theorem ER {a:Bytes} (h:Canon a):aP (num a)=a:=rT (gH _) h (aK _)
theorem Ls (a:Bytes):fZ a=aP (num a):=rT (xz _) (gH _) (by rw[B5,aK])
theorem iR {k n:Nat} (h:n<256^k):fZ (be k n)=aP n:=by rw[Ls,wI,bA h]
theorem I3:aP 0=[]:=by decide
theorem mT {n k:Nat}:(aP n).length≤k↔n<256^k:=by
 constructor
 ·intro h;have:=bV (aP n);rw[aK]at this;exact a9 this (cQ (by decide) h)
 ·intro h
  by_cases hne:aP n=[]
  ·simp[hne]
  ·have h1:=mF (gH n) hne;rw[aK]at h1;have h3:256^((aP n).length-1)<256^k:=by omega
   have:=(oN (by decide:1<256)).1 h3
   omega
theorem EP {m n:Nat}:aP m=aP n↔m=n:=⟨fun h=>by rw[←aK m,h,aK],fun h=>by rw[h]⟩
theorem gI {n:Nat}:aP n=[]↔n=0:=by rw[←I3];exact EP
theorem pM (a:Bytes):aa a=true↔a.length≤128∧Canon a:=by
 unfold aa Canon
 cases a with
 |nil=>simp
 |cons x r=>simp
theorem bE {a:Bytes} (h:aa a=true):Canon a:=((pM a).1 h).2
theorem fW {a:Bytes} (h:aa a=true):aP (num a)=a:=ER (bE h)
theorem cI {a:Bytes} (h:aa a=true):a.length≤128:=((pM a).1 h).1
theorem sk {a:Bytes} (h:aa a=true):num a<256^128:=a9 (bV a) (cQ (by decide) (cI h))
theorem oI {n:Nat} (h:n<256^128):aa (aP n)=true:=(pM _).2 ⟨mT.2 h,gH n⟩
theorem qB {a:Bytes} (ha:aa a=true):num a=0↔a=[]:=by
 constructor
 ·intro h;exact rT (bE ha) (.inl rfl) h
 ·intro h;subst h;rfl
theorem sj (a:Bytes) {i:Nat} (h:i<a.length):(a.getD (a.length-1-i) 0).toNat=num a/256^i%256:=by
 have e:a=a.take (a.length-1-i)++(a.getD (a.length-1-i) 0::a.drop (a.length-i)):=by
  have h2:a.length-1-i<a.length:=by omega
  conv=>lhs;rw[←uy (a.length-1-i) a,ig h2]
  rw[show a.length-1-i+1=a.length-i by omega]
  simp[aX,h2]
 have hl:(a.drop (a.length-i)).length=i:=by simp;omega
 have hn:=wH (a.take (a.length-1-i)) (a.getD (a.length-1-i) 0::a.drop (a.length-i));rw[←e]at hn;simp only[num,List.length_cons,hl]at hn;have hlt:=bV (a.drop (a.length-i));rw[hl]at hlt;generalize (a.getD (a.length-1-i) 0)=c at hn⊢;have hc:=c.toNat_lt;have:num a=(num (a.take (a.length-1-i))*256+c.toNat)*256^i+num (a.drop (a.length-i)):=by
  rw[hn,Nat.pow_succ,cr,bY,a7 256];omega
 rw[this,a7 _ (256^i),uH (iq _),gn hlt];omega
theorem pC (a:Bytes) {i:Nat} (h:a.length≤i):num a/256^i=0:=gn (a9 (bV a) (cQ (by decide) h))
theorem s8 (x y:UInt8) {r s:Bytes} (hl:r.length=s.length):num (x::r)<num (y::s)↔x.toNat<y.toNat∨(x=y∧num r<num s):=by
 simp only[num,hl];have h1:=bV r;have h2:=bV s;rw[hl]at h1;generalize 256^s.length=p at h1 h2⊢;rcases A5 x.toNat y.toNat with h|h|h
 ·have:=cC p (show x.toNat+1≤y.toNat from h)
  rw[cr]at this;simp only[h,true_or,iff_true];omega
 ·have:x=y:=jd.1 h;subst this;simp
 ·have:=cC p (show y.toNat+1≤x.toNat from h)
  rw[cr]at this;have hne:x≠y:=fun e=>by subst e;omega
  simp only[hne,false_and,or_false];omega
theorem gJ {a b:Bytes} (hb:Canon b) (h:a.length<b.length):num a<num b:=by
 have h1:=bV a;have h2:=mF hb (by intro e;subst e;simp at h)
 exact a9 h1 (fg (cQ (by decide) (by omega)) h2)
theorem Ga {α:Type} (l m:List α) (x y:α):(l++x::m).set l.length y=l++y::m:=by simp
theorem EB (k:Nat):(List.replicate (k+1) (0:UInt8))=List.replicate k 0++[0]:=by rw[List.replicate_succ']
theorem fX {n i:Nat} (hi:i<n) (c:UInt8) (b:Bytes):(List.replicate (n-i) (0:UInt8)++b).set (n-1-i) c=List.replicate (n-(i+1)) 0++(c::b):=by
 obtain⟨k,rfl⟩: ∃k,n=k+i+1:=⟨n-i-1,by omega⟩
 rw[show k+i+1-i=k+1 by omega,show k+i+1-1-i=k by omega,show k+i+1-(i+1)=k by omega,EB]
 have:=Ga (List.replicate k (0:UInt8)) b 0 c;simpa using this
end Go.Dom
namespace Go.Dom
open Go
def dv (x k:Nat):Nat:=x/256^k%256
def tK (x:Int) (k:Nat):Int:=x/256^k%256
theorem tM (x k:Nat):tK x k=(dv x k:Nat):=by
 unfold tK dv;rw[Int.natCast_emod,Int.natCast_ediv,Int.natCast_pow];rfl
theorem E9 (x:Int) (k:Nat):0≤tK x k∧tK x k<256:=⟨fE _ (by decide),fQ _ (by decide)⟩
theorem Hw (i:Nat):(0:Int)<256^i:=Int.pow_pos (by decide)
def cy (U V a:Int) (i:Nat):Int:=(U%256^i+a*(V%256^i))/256^i
theorem E7 (U V a:Int):cy U V a 0=0:=by simp[cy,Int.emod_one]
theorem Dw (U V a:Int) (i:Nat):(U+a*V)/256^i=cy U V a i+(U/256^i+a*(V/256^i)):=by
 have hB:=Hw i;unfold cy;have e1:=mf U (256^i);have e2:=mf V (256^i);have e:U+a*V=(U%256^i+a*(V%256^i))+256^i*(U/256^i+a*(V/256^i)):=by
  rw[kz,AK (256^i) a];have:a*V=a*(V%256^i)+a*(256^i*(V/256^i)):=by rw[←kz,e2]
  omega
 rw[e,uu _ _ (Int.ne_of_gt hB)]
theorem MP (U V a:Int) (i:Nat):cy U V a (i+1)=(tK U i+a*tK V i+cy U V a i)/256:=by
 have hB:=Hw i;have h (W:Int):W%256^(i+1)=W%256^i+256^i*tK W i:=by
  unfold tK;refine((Ax (q:=W/256^i/256) (Hw (i+1))).2 ⟨?_,?_,?_⟩).2
  ·have e1:=mf W (256^i);have e2:=mf (W/256^i) 256;have:256^i*(W/256^i)=256^i*(W/256^i%256)+256^i*(256*(W/256^i/256)):=by rw[←kz,e2]
   rw[Int.pow_succ,kF];omega
  ·have:=fE W (Int.ne_of_gt hB);have:=Int.mul_nonneg (Int.le_of_lt hB) (fE (W/256^i) (by decide:(256:Int)≠0))
   omega
  ·have h1:=fQ W hB;have h2:=fQ (W/256^i) (by decide:(0:Int)<256)
   have h3:256^i*(W/256^i%256)≤256^i*255:=Int.mul_le_mul_of_nonneg_left (by omega) (Int.le_of_lt hB)
   rw[Int.pow_succ];omega
 have e:U%256^(i+1)+a*(V%256^(i+1))=(U%256^i+a*(V%256^i))+256^i*(tK U i+a*tK V i):=by
  rw[h U,h V,kz,kz,AK a];omega
 show(_+ _)/ _= _;rw[e,Int.pow_succ,←Int.ediv_ediv_of_nonneg (Int.le_of_lt hB),uu _ _ (Int.ne_of_gt hB)];congr 1;unfold cy;omega
theorem E6 (U V a:Int) (i:Nat):tK U i+a*tK V i+cy U V a i=256*cy U V a (i+1)+tK (U+a*V) i:=by
 have h1:=MP U V a i;have h2:=Dw U V a i;have e:tK (U+a*V) i=(tK U i+a*tK V i+cy U V a i)%256:=by
  unfold tK;rw[h2];have e1:=mf (U/256^i) 256;have e2:=mf (V/256^i) 256;have e3:a*(V/256^i)=a*(V/256^i%256)+256*(a*(V/256^i/256)):=by
   rw[AK,←kz,e2]
  have:cy U V a i+(U/256^i+a*(V/256^i))=(U/256^i%256+a*(V/256^i%256)+cy U V a i)+256*(U/256^i/256+a*(V/256^i/256)):=by omega
  rw[this,oP]
 rw[h1,e];omega
theorem JI {R D n:Nat} (hn:1≤n) (h1:128*256^(n-1)≤D) (h2:D<256^n) (hR:R<256*D):
  128≤dv D (n-1)∧R/D≤(dv R n*256+dv R (n-1))/dv D (n-1)∧R/D≤255:=by
 obtain⟨k,rfl⟩: ∃k,n=k+1:=⟨n-1,by omega⟩
 rw[kn]at h1⊢;have hB:0<256^k:=fL (by decide)
 rw[Nat.pow_succ]at h2;have hD0:0<D:=by omega
 have v1:D/256^k<256:=by rw[gv hB];omega
 have v2:128≤D/256^k:=(rm hB).2 h1;have v3:dv D k=D/256^k:=bA v1;have u1:R/256^k<65536:=by rw[gv hB];omega
 have u3:dv R (k+1)*256+dv R k=R/256^k:=by
  unfold dv;rw[Nat.pow_succ,←dZ];clear v1 v2 v3 h1 h2;generalize R/256^k=y at*;omega
 rw[v3,u3];have hRD:R/D<256:=by
  rw[gv hD0];exact hR
 refine⟨v2,?_,by omega⟩
 rw[rm (by omega),rm hB,bY]
 exact fg (ic _ (oV _ _)) (oV _ _)
theorem Bx (x i s:Nat) (hs:s≤7):dv (x*2^s) (i+1)=dv x (i+1)*2^s%256+dv x i/2^(8-s):=by
 unfold dv;have hB:0<256^i:=fL (by decide)
 obtain⟨y,hy⟩: ∃y,y=x/256^i:=⟨_,rfl⟩;obtain⟨e,he,hlt⟩: ∃e,x*2^s/256^i=y*2^s+e∧e<2^s:=by
  refine⟨x%256^i*2^s/256^i,?_,?_⟩
  ·have:x*2^s=x%256^i*2^s+256^i*(y*2^s):=by
    rw[←bY,←cr,hy,Nat.mod_add_div]
   rw[this,ml _ _ hB,fP]
  ·rw[gv hB,a7];exact Gg (aG _ hB) (fL (by decide))
 rw[Nat.pow_succ,←dZ,←dZ,he,←hy];clear hy he hB;obtain rfl|rfl|rfl|rfl|rfl|rfl|rfl|rfl:s=0∨s=1∨s=2∨s=3∨s=4∨s=5∨s=6∨s=7:=by omega
 all_goals simp only[Nat.pow_zero,Nat.reducePow,Nat.reduceSub]at hlt⊢;omega
theorem yp (x s:Nat):dv (x*2^s) 0=dv x 0*2^s%256:=by
 unfold dv;rw[Nat.pow_zero,iY,iY,iV]
theorem DA (x i s:Nat) (hs:s≤7):(dv x i+dv x (i+1)*256)/2^s%256=dv (x/2^s) i:=by
 unfold dv;rw[dZ,a7 (2^s),←dZ,Nat.pow_succ,←dZ];generalize x/256^i=y;obtain rfl|rfl|rfl|rfl|rfl|rfl|rfl|rfl:s=0∨s=1∨s=2∨s=3∨s=4∨s=5∨s=6∨s=7:=by omega
 all_goals simp only[Nat.pow_zero,Nat.reducePow];omega
theorem nL (x k:Nat):dv x k<256:=aG _ (by decide)
theorem Dz {x k:Nat} (h:x<256^k):dv x k=0:=by unfold dv;rw[gn h]
def dl (N:Nat) (f:Nat→Nat):List Nat:=(List.range N).map f
theorem kP (N:Nat) (f:Nat→Nat):(dl N f).length=N:=by simp[dl]
theorem rX {N:Nat} {f:Nat→Nat} {k:Nat} (h:k<N):(dl N f).getD k 0=f k:=by simp[dl,aX,h]
theorem vD {N:Nat} {f g:Nat→Nat} (h: ∀k,k<N→f k=g k):dl N f=dl N g:=l9 fun k hk=>h k (dk.1 hk)
theorem zp {N:Nat} {f g:Nat→Nat} {p v:Nat} (hv:p<N→g p=v) (h: ∀k,k<N→k≠p→g k=f k):(dl N f).set p v=dl N g:=by
 refine ry (by simp[dl]) fun k h1 h2=> ?_
 have hk:k<N:=by simpa[dl]using h2
 rw[List.getElem_set]
 by_cases hp:p=k
 ·subst hp;simp[dl,hv hk]
 ·rw[if_neg hp];simp[dl,h k hk (fun e=>hp e.symm)]
def dX (f:Nat→Nat) (j i:Nat) (X:Int) (k:Nat):Nat:=if j≤k∧k<j+i then(tK X (k-j)).toNat else f k
theorem E8 (f:Nat→Nat) (j:Nat) (X:Int):dX f j 0 X=f:=by funext k;unfold dX;rw[if_neg (by omega)]
theorem Jh {N:Nat} (f:Nat→Nat) (j i:Nat) (X:Int) {v:Nat} (hv:(v:Int)=tK X i):(dl N (dX f j i X)).set (i+j) v=dl N (dX f j (i+1) X):=by
 refine zp (fun _=> ?_) fun k _ hk=> ?_
 ·unfold dX;rw[if_pos (by omega),show i+j-j=i by omega,←hv,Int.toNat_natCast]
 ·unfold dX
  by_cases h:j≤k∧k<j+i
  ·rw[if_pos h,if_pos (by omega)]
  ·rw[if_neg h,if_neg (by omega)]
theorem Pc (f:Nat→Nat) (j i:Nat) (X:Int):dX f j i X (i+j)=f (i+j):=by unfold dX;rw[if_neg (by omega)]
theorem Tw (f:Nat→Nat) {j i n:Nat} (X:Int) (h:i<n):((dX f j n X (i+j):Nat):Int)=tK X i:=by
 unfold dX;rw[if_pos (by omega),show i+j-j=i by omega]
 have:=(E9 X i).1;omega
theorem QY (f:Nat→Nat) (j n:Nat) (X:Int):dX f j n X (j+n)=f (j+n):=by unfold dX;rw[if_neg (by omega)]
theorem MS {R j n X:Nat} (hR:R<256^(j+n+1)) (hX:X<256^n) (k:Nat):(if k=j+n then 0 else dX (dv R) j n X k)=dv (X*256^j+R%256^j) k:=by
 have hj:0<256^j:=fL (by decide)
 have hlo:R%256^j<256^j:=aG _ hj
 by_cases hk:k<j
 ·rw[if_neg (by omega),dX,if_neg (by omega)]
  obtain⟨d,rfl⟩: ∃d,j=k+1+d:=⟨j-k-1,by omega⟩
  have e1:X*256^(k+1+d)+R%256^(k+1+d)=R%256^(k+1+d)+256^(k+1)*(256^d*X):=by
   rw[←bY,←ct,a7 X];omega
  have e2 (Y:Nat):dv Y k=Y%256^(k+1)/256^k:=by
   unfold dv;rw[Nat.pow_succ,oU]
  rw[e2,e2,e1,uL,rq _ (AF 256 (by omega))]
 ·obtain⟨d,rfl⟩: ∃d,k=j+d:=⟨k-j,by omega⟩
  have e:dv (X*256^j+R%256^j) (j+d)=dv X d:=by
   unfold dv;rw[ct,←dZ,fP,a7 X,ml _ _ hj,gn hlo,cW]
  rw[e]
  by_cases hd:d=n
  ·subst hd;rw[if_pos rfl,Dz hX]
  ·rw[if_neg (by omega)]
   unfold dX
   by_cases hdn:d<n
   ·rw[if_pos (by omega),Nat.add_sub_cancel_left,tM,Int.toNat_natCast]
   ·rw[if_neg (by omega),Dz (a9 hX (cQ (by decide) (by omega))),Dz (a9 hR (cQ (by decide) (by omega)))]
theorem zB {a:Nat} (h:a<9223372036854775808):kR .i64 (a:Int) 255=((a%256:Nat):Int):=by
 unfold kR;have h1:(BitVec.ofInt 64 (a:Int)&&&BitVec.ofInt 64 255).toNat=a%256:=by
  rw[BitVec.toNat_and,BitVec.ofInt_natCast,jB,show(BitVec.ofInt 64 255).toNat=2^8-1 from rfl,bA (by omega),Gc]
 show IntKind.i64.wrap ((BitVec.ofInt 64 (a:Int)&&&BitVec.ofInt 64 255).toNat:Int)= _;rw[h1,IntWalk.i64_in _ (by omega)]
theorem TC {a b:Nat} (ha:a<9223372036854775808) (hb:b<9223372036854775808):DC .i64 (a:Int) (b:Int)=((a|||b:Nat):Int):=by
 unfold DC;have h1:(BitVec.ofInt 64 (a:Int)|||BitVec.ofInt 64 (b:Int)).toNat=a|||b:=by
  rw[BitVec.toNat_or,BitVec.ofInt_natCast,BitVec.ofInt_natCast,jB,jB,bA (by omega),bA (by omega)]
 show IntKind.i64.wrap ((BitVec.ofInt 64 (a:Int)|||BitVec.ofInt 64 (b:Int)).toNat:Int)= _;have h2:a|||b<2^63:=Nat.or_lt_two_pow (by omega) (by omega)
 rw[h1,IntWalk.i64_in _ (by omega)]
theorem Wq {a b s:Nat} (hs:s≤8) (ha:a<256) (hb:b<2^s):DC .i64 ((a*2^s:Nat):Int) (b:Int)=((a*2^s+b:Nat):Int):=by
 have h1:2^s≤2^8:=cQ (by decide) hs
 have h2:a*2^s≤256*2^8:=jH (jy ha) h1;rw[TC (by omega) (by omega),a7,←Gh hb]
theorem Xq {a b:Nat} (ha:a<256) (hb:b<256):DC .i64 (b:Int) ((a*256:Nat):Int)=((b+a*256:Nat):Int):=by
 rw[TC (by omega) (by omega),Nat.or_comm,a7,←Gh (i:=8) hb]
 omega
end Go.Dom
