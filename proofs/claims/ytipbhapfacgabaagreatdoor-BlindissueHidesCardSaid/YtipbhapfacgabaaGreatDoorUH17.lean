/- Part of the proof. -/
import Derived.Test.YtipbhapfacgabaaGreatDoorUH16
set_option linter.all false
namespace Go.Dom
variable {a b k o x:Nat} {el:Option TypeId}
theorem Wi (x:Int):IntKind.u8.wrap x=x%256:=xw x
theorem Sk (x:Int):IntKind.u32.wrap x=x%4294967296:=IntKind.wrap_u32 x
theorem FO (x:Int):IntKind.u64.wrap x=x%18446744073709551616:=by simp[IntKind.wrap,IntKind.bits,IntKind.signed]
theorem B6 (a b:Nat):(a:Int).fdiv (b:Int)=((a/b:Nat):Int):=by
 rw[Jd _ (by omega)];rfl
theorem QA (a k:Nat):(a:Int).fdiv (2^k)=((a/2^k:Nat):Int):=by
 have:((2:Int)^k)=((2^k:Nat):Int):=by simp
 rw[this,B6]
theorem kK (a:Nat):IntKind.u8.wrap (a:Int)=((UInt8.ofNat a).toNat:Int):=by
 rw[Wi,iK];omega
theorem gG (w a:Nat):BitVec.ofInt w (a:Int)=BitVec.ofNat w a:=BitVec.ofInt_natCast w a
theorem O0 (k:IntKind) (hk:k.signed=false) (x:Nat):k.wrap (x:Int)=((x%2^k.bits:Nat):Int):=by
 simp[IntKind.wrap,hk]
theorem UI (k:IntKind) (hk:k.signed=false) (ha:a<2^k.bits) (hb:b<2^k.bits):Gu k (a:Int) (b:Int)=((a|||b:Nat):Int):=by
 rw[Gu,gG,gG,BitVec.toNat_or,kC,kC,bM ha,bM hb,O0 k hk,bM (Nat.or_lt_two_pow ha hb)]
theorem Ni (k:IntKind) (hk:k.signed=false) (ha:a<2^k.bits) (hb:b<2^k.bits):my k (a:Int) (b:Int)=((a&&&b:Nat):Int):=by
 rw[my,gG,gG,BitVec.toNat_and,kC,kC,bM ha,bM hb,O0 k hk,bM (Nat.and_lt_two_pow _ hb)]
theorem SP (k:IntKind) (hk:k.signed=false) (ha:a<2^k.bits) (hb:b<2^k.bits):EJ k (a:Int) (b:Int)=((a^^^b:Nat):Int):=by
 rw[EJ,gG,gG,BitVec.toNat_xor,kC,kC,bM ha,bM hb,O0 k hk,bM (Nat.xor_lt_two_pow ha hb)]
theorem EV {c:Nat} (h:c<2^k):x*2^k|||c=x*2^k+c:=by
 rw[<-Nat.shiftLeft_eq,Nat.shiftLeft_add_eq_or_of_lt h]
theorem LR (x k:Nat):x&&&(2^k-1)=x%2^k:=Jf x k
theorem Gi (l:List PV):chunk 1 l.length l=l:=by
 induction l with
 |nil=>rfl
 |cons x r ih=>simp[chunk,ih]
theorem FK {hf:Nat->Option aC} {f n ver:Nat} {l:Bytes} {gr:Bool} {m:Nat} (hm:m=l.length) (h:hf n=some ⟨ver,aH l,gr,el⟩):
  view hf (f+2) (.rs n ver 0 m 1)=some (.sl (l.map u8)):=by
 subst hm;have h1:aU (view hf (f+1)) (aH l)=some (l.map u8):=by
  have:=iI hf f (l.map u8);rw[kP]at this;exact this
 have h2:(aH l).all AV.one=true:=by simp[aH,AV.one,PV.one,u8]
 have h3:chunk 1 l.length (l.map u8)=l.map u8:=by have:=Gi (l.map u8);simpa using this
 simp[view,h,l9,h2,ju,h1,h3]
theorem CY {hf:Nat->Option aC} {f n ver:Nat} {l:Bytes} {gr:Bool} {m:Nat} (hm:m=l.length) (h:hf n=some ⟨ver,aH l,gr,el⟩):
  aX hf (f+2) (.rs n ver 0 m 1)=[n]:=by
 subst hm;have h1:(aH l).flatMap (aX hf (f+1))=[]:=by
  unfold aH
  induction l with
  |nil=>rfl
  |cons x r ih=>simp_all[aX]
 simp[aX,h,ju,h1]
theorem iD {P:Program} [ct P] {Q:AX->AS->Prop} {nx:Nat} {bf:Option (List Nat)} {nn:Nat} {d:Option Nat} {ops:List jV} {s:AS} {tr:List (Nat×List Nat×List Nat)} {K:List Fr} {nm:Nat} {f:FuncId} {n ver m:Nat} {l:Bytes} {gr:Bool} {r:PV}
  (he:qO P f [.sl (l.map u8)] r) (hr:r.flat=true) (hg:hget s.h n=some ⟨ver,aH l,gr,el⟩) (hm:m=l.length) (hK:RW P Q nx bf nn ops (k+1) (s.s9 d (.v r) []) (zV bf k [n] [] tr) K):
  CR P Q nx bf nn nm (.v (.fn (.func f))) [.rs n ver 0 m 1] d ops k s tr K:=by
 refine gp he ?_ hr ?_
 ·simp[aU,FK hm hg]
 ·have:[AV.rs n ver 0 m 1].flatMap (aX (hget s.h) 9)=[n]:=by simp[CY hm hg]
  rw[this];exact hK
theorem sj {l:Bytes} {x:Int} {c:UInt8} (h:o<l.length) (hx:x=(c.toNat:Int)):(aH l).take o++[.v (.i .u8 x)]++(aH l).drop (o+1)=aH (l.set o c):=by
 subst hx;unfold aH;rw[wU,xl];simp[h,u8]
theorem Xq (a n:Nat):(a:Int).fdiv (no_index (OfNat.ofNat n))=((a/(OfNat.ofNat n):Nat):Int):=B6 a n
theorem Yj (a b:Nat):(a:Int).tdiv (b:Int)=((a/b:Nat):Int):=rfl
theorem Yl (a b:Nat):(a:Int).tmod (b:Int)=((a%b:Nat):Int):=rfl
theorem Yi (a n:Nat):(a:Int).tdiv (no_index (OfNat.ofNat n))=((a/(OfNat.ofNat n):Nat):Int):=rfl
theorem Yk (a n:Nat):(a:Int).tmod (no_index (OfNat.ofNat n))=((a%(OfNat.ofNat n):Nat):Int):=rfl
theorem uw (a:Nat):IntKind.u64.wrap (a:Int)=((a%18446744073709551616:Nat):Int):=by rw[FO];omega
theorem yN (a b:Nat):IntKind.u64.wrap ((a:Int)*(b:Int))=((a*b%18446744073709551616:Nat):Int):=by rw[<-Int.natCast_mul,uw]
theorem qW (a n:Nat):IntKind.u64.wrap ((a:Int)*(no_index (OfNat.ofNat n)))=((a*(OfNat.ofNat n)%18446744073709551616:Nat):Int):=yN a n
theorem vE (a n:Nat):IntKind.u64.wrap ((no_index (OfNat.ofNat n))*(a:Int))=(((OfNat.ofNat n)*a%18446744073709551616:Nat):Int):=yN n a
theorem Fx (a k:Nat):IntKind.u64.wrap ((a:Int)*2^k)=((a*2^k%18446744073709551616:Nat):Int):=by
 have:=yN a (2^k);simpa using this
theorem BL (a b:Nat):IntKind.u64.wrap ((a:Int)+(b:Int))=(((a+b)%18446744073709551616:Nat):Int):=by rw[<-Int.natCast_add,uw]
theorem u6 (a n:Nat):IntKind.u64.wrap ((a:Int)+(no_index (OfNat.ofNat n)))=(((a+(OfNat.ofNat n))%18446744073709551616:Nat):Int):=BL a n
theorem Am (a b:Nat):IntKind.u64.wrap ((a:Int)-(b:Int))=(((a+(18446744073709551616-b%18446744073709551616))%18446744073709551616:Nat):Int):=by rw[FO];omega
theorem vO (a n:Nat):IntKind.u64.wrap ((a:Int)-(no_index (OfNat.ofNat n)))=(((a+(18446744073709551616-(OfNat.ofNat n)%18446744073709551616))%18446744073709551616:Nat):Int):=Am a n
theorem vM (a n:Nat):IntKind.u64.wrap ((no_index (OfNat.ofNat n))-(a:Int))=((((OfNat.ofNat n)+(18446744073709551616-a%18446744073709551616))%18446744073709551616:Nat):Int):=Am n a
theorem Zn (a b:Nat):my .u64 (a:Int) (b:Int)=(((a%18446744073709551616)&&&(b%18446744073709551616):Nat):Int):=by
 have h:=Ni .u64 rfl (a:=a%18446744073709551616) (b:=b%18446744073709551616) (aL _ (by decide)) (aL _ (by decide))
 rw[<-h];unfold my;simp only[gG];congr 4<;>(apply BitVec.eq_of_toNat_eq;simp[IntKind.bits])
theorem pN (a:Nat):my .u64 (a:Int) 4294967295=((a%4294967296:Nat):Int):=by
 have h:=Zn a 4294967295;have e:(a%18446744073709551616)&&&(4294967295%18446744073709551616)=a%4294967296:=by
  have:=LR (a%18446744073709551616) 32;rw[show(4294967295%18446744073709551616:Nat)=2^32-1 from rfl,this];omega
 rw[e]at h;exact h
theorem aaa (h:x<256):IntKind.u8.wrap (x:Int)=(x:Int):=IntWalk.u8_in _ (by omega)
attribute [go_sem] Xq QA Yj Yl Yi Yk
def aE (k:IntKind) (l:List Nat):List AV:=l.map fun x:Nat=> .v (.i k (x:Int))
theorem bE (k:IntKind) (l:List Nat):(aE k l).length=l.length:=by simp[aE]
theorem ry (k:IntKind) (n:Nat):(List.replicate n [AV.v (PV.i k 0)]).flatten=aE k (List.replicate n 0):=by
 induction n with
 |zero=>rfl
 |succ n ih=>simp[List.replicate_succ,aE]at ih⊢
theorem dy {k:IntKind} {l:List Nat} {i:Nat} (h:i<l.length):(aE k l).getD i .u= .v (.i k (l.getD i 0:Nat)):=by
 simp[aE,bR,h]
theorem fg {k:IntKind} {l:List Nat} {y:Int} (h:o<l.length) (hy:y=(x:Int)):(aE k l).take o++[.v (.i k y)]++(aE k l).drop (o+1)=aE k (l.set o x):=by
 subst hy;unfold aE;rw[wU,xl];simp[h]
theorem az (k:IntKind) (l:List Nat) (n:Nat):(∀y,y∈aE k l->y.bd n=true)=True:=by
 simp only[eq_iff_iff,iff_true];intro y hy;obtain⟨c,-,rfl⟩:=cG.1 hy;rfl
theorem Fi (f:Nat->Option Nat) (k:IntKind) (l:List Nat):AV.ren.renL f (aE k l)=some (aE k l):=by
 induction l with
 |nil=>rfl
 |cons c l ih=>
  have:AV.ren.renL f (AV.v (.i k c)::aE k l)=some (AV.v (.i k c)::aE k l):=by simp[AV.ren.renL,AV.ren,ih]
  exact this
structure Hid (p:Prop):Prop where
 v:p
end Go.Dom
namespace Go.Dom
open Go.RowKit
section
variable {P:Program} [ct P] {Q:AX->AS->Prop}
variable {k nm nx:Nat} {tr:List (Nat×List Nat×List Nat)}
theorem cP {bf:Option (List Nat)} {n:Nat} {d:Option Nat} {ops:List jV} {s:AS} {K:List Fr} {f:FuncId} {avs:List AV} {pvs:List PV} {r:PV} (he:qO P f pvs r) (hK:RW P Q nx bf n ops (k+1) (s.s9 d (.v r) []) (zV bf k [] [] tr) K) (ha:mF avs=some pvs:=by exact rfl):
  CR P Q nx bf n nm (.v (.fn (.func f))) avs d ops k s tr K:=iw he ha hK
theorem cV {bf:Option (List Nat)} {n:Nat} {d:Option Nat} {ops:List jV} {s:AS} {K:List Fr} {f:FuncId} {avs:List AV} {pvs:List PV} {r:PV} (he:qO P f pvs r) (hK:RW P Q nx bf n ops (k+1) (s.s9 d (.v r) []) (zV bf k (avs.flatMap (aX (hget s.h) 9)) [] tr) K) (ha:aU (view (hget s.h) 9) avs=some pvs:=by exact rfl) (hr:r.flat=true:=by exact rfl):
  CR P Q nx bf n nm (.v (.fn (.func f))) avs d ops k s tr K:=gp he ha hr hK
theorem bP:(∀(c:Bool) (κ:BK),c=true->BX P Q c κ=BX P Q true κ)/\(∀(c:Bool) (κ:BK),c=false->BX P Q c κ=BX P Q false κ)/\(∀(p:Prop) (κ:BK),p->PX P Q p κ=BX P Q true κ)/\(∀(p:Prop) (κ:BK),¬p->PX P Q p κ=BX P Q false κ):=
 ⟨fun _ _ h=>Pb h,fun _ _ h=>Pa h,fun _ _ h=>LF h,fun _ _ h=>LC h⟩
theorem pX {p:Prop} {κ:BK} (h1:p->BX P Q true κ) (h2: ¬p->BX P Q false κ):PX P Q p κ:=PX.mk h1 h2
theorem bX {c:Bool} {κ:BK} (h1:c=true->BX P Q true κ) (h2:c=false->BX P Q false κ):BX P Q c κ:=BX.mk h1 h2
end
theorem bW:(∀n:Int,-9223372036854775808<=n/\n<=9223372036854775807->IntKind.i64.wrap n=n)/\(∀n:Int,0<=n/\n<=18446744073709551615->IntKind.u64.wrap n=n):=⟨IntWalk.i64_in,IntWalk.u64_in⟩
theorem oD {p:Prop} (h:p:=by first|omega|decide):p:=h
theorem lE {t t':List (Nat×AV)} {h h':List (Nat×aC)} {n n':Nat} (hn:n<=n':=by first|decide|omega) (ht:dG t' n t:=by simp[dG,dF,aO,hget,AV.bd,AV.bd.bdL,u8,ar,au,az]) (hh:dF h' n h:=by simp[dG,dF,aO,hget,AV.bd,AV.bd.bdL,u8,ar,au,az]):(AS.mk t h n).Le ⟨t',h',n'⟩:=AS.Le.of hn ht hh
end Go.Dom
namespace Go.Dom
variable {a b:Bytes}
def num:Bytes->Nat
 |[]=>0
 |x::r=>x.toNat*256^r.length+num r
def be:Nat->Nat->Bytes
 |0,_=>[]
 |k+1,n=>UInt8.ofNat (n/256^k)::be k n
def iJ:Bytes->Bytes
 |[]=>[]
 |x::r=>if x=0 then iJ r else x::r
def aZ (n:Nat):Bytes:=iJ (be (n.log2/8+1) n)
def aa (a:Bytes):Bool:=decide (a.length<=128)&&(a.length==0||a.headD 0 !=0)
theorem cA (k n:Nat):(be k n).length=k:=by induction k<;>simp_all[be]
theorem jn (k:Nat):0<256^k:=il (by decide)
theorem cu (a:Bytes):num a<256^a.length:=by
 induction a with
 |nil=>decide
 |cons x r ih=>
  simp only[num,List.length_cons,Nat.pow_succ];have:=x.toNat_lt;have h2:x.toNat*256^r.length<=255*256^r.length:=cK _ (by omega)
  omega
theorem yR (a b:Bytes):num (a++b)=num a*256^b.length+num b:=by
 induction a with
 |nil=>simp[num]
 |cons x r ih=>simp only[List.cons_append,num,ih,bU,cF,cO,cr];omega
theorem yT (a:Bytes) (x:UInt8):num (a++[x])=num a*256+x.toNat:=by simp[yR,num]
theorem yS (k n:Nat):num (be k n)=n%256^k:=by
 induction k with
 |zero=>simp[be,num,lK]
 |succ k ih=>
  simp only[be,num,cA,ih,iK];have h:=px (x:=n) (a:=256^k) (b:=256);rw[show(256:Nat)^(k+1)=256^k*256 from Nat.pow_succ ..,h,bw (256^k)]
  show n/256^k%256*256^k+n%256^k= _;omega
theorem BO (a:Bytes):be a.length (num a)=a:=by
 induction a with
 |nil=>rfl
 |cons x r ih=>
  have h:num (x::r)=x.toNat*256^r.length+num r:=rfl;have h1:=cu r;have h2:num (x::r)/256^r.length=x.toNat:=by
   rw[h,bw,wX (jn _),iO h1];omega
  have h3: ∀k m m',m%256^k=m'%256^k->be k m=be k m':=by
   intro k
   induction k with
   |zero=>intros;rfl
   |succ k ih=>
    intro m m' hm;have e1:m/256^k%256=m'/256^k%256:=by
     rw[Nat.pow_succ]at hm;have a1:=px (x:=m) (a:=256^k) (b:=256);have a2:=px (x:=m') (a:=256^k) (b:=256);have b1:m%(256^k*256)/256^k=m/256^k%256:=by rw[qD]
     have b2:m'%(256^k*256)/256^k=m'/256^k%256:=by rw[qD]
     rw[<-b1,<-b2,hm]
    have e2:m%256^k=m'%256^k:=by
     have a1:m%256^(k+1)%256^k=m%256^k:=tQ _ (Dj 256 (Nat.le_succ k));have a2:m'%256^(k+1)%256^k=m'%256^k:=tQ _ (Dj 256 (Nat.le_succ k));rw[<-a1,<-a2,hm]
    simp only[be,ih m m' e2];congr 1;apply jN.1;simpa using e1
  simp only[List.length_cons,be,h2];rw[show UInt8.ofNat x.toNat=x by simp,h3 r.length (num (x::r)) (num r) (by rw[h,Nat.mul_add_mod_self_right]),ih]
theorem zK (a:Bytes): ∃k,a=List.replicate k 0++iJ a/\(iJ a=[]\/(iJ a).headD 0≠0):=by
 induction a with
 |nil=>exact⟨0,rfl, .inl rfl⟩
 |cons x r ih=>
  simp only[iJ];split
  ·rename_i h;subst h;obtain⟨k,e,h⟩:=ih;exact⟨k+1,by simp[List.replicate_succ,<-e],h⟩
  ·rename_i h;exact⟨0,rfl, .inr h⟩
theorem Kp (k:Nat) (a:Bytes):num (List.replicate k 0++a)=num a:=by
 induction k with
 |zero=>rfl
 |succ k ih=>simp[List.replicate_succ,num,ih]
theorem ER (a:Bytes):num (iJ a)=num a:=by
 obtain⟨k,e,-⟩:=zK a
 conv=>rhs;rw[e,Kp]
def Canon (a:Bytes):Prop:=a=[]\/a.headD 0≠0
theorem zL (a:Bytes):Canon (iJ a):=by obtain⟨k,-,h⟩:=zK a;exact h
theorem nO (h:Canon a) (hne:a≠[]):256^(a.length-1)<=num a:=by
 cases a with
 |nil=>exact aJ rfl hne
 |cons x r=>
  rcases h with h|h
  ·cases h
  ·have hx:0<x.toNat:=by
    rcases kQ x.toNat with e|e
    ·exact aJ (jN.1 e:x=0) h
    ·exact e
   simp only[num,List.length_cons,o6];have:=cK (256^r.length) hx;omega
theorem uu (ha:Canon a) (hb:Canon b) (h:num a=num b):a=b:=by
 have key: ∀{a b:Bytes},Canon a->Canon b->num a=num b->a.length<=b.length:=by
  intro a b ha hb h
  by_cases hne:a=[]
  ·subst hne;simp
  ·have h1:=nO ha hne;have h2:=cu b;have h3:256^(a.length-1)<256^b.length:=by omega
   have:=(qu (by decide:1<256)).1 h3
   omega
 have hl:a.length=b.length:=Dl (key ha hb h) (key hb ha h.symm);have h1:=BO a;rw[h,hl,BO b]at h1;exact h1.symm
theorem QY (n:Nat):n<256^(n.log2/8+1):=by
 have h1:n<2^(n.log2+1):=tT;have h2:(256:Nat)^(n.log2/8+1)=2^(8*(n.log2/8+1)):=by rw[gX]
 rw[h2];exact ba h1 (cW (by decide) (by omega))
theorem aP (n:Nat):num (aZ n)=n:=by
 rw[aZ,ER,yS];exact bM (QY n)
theorem gF (n:Nat):Canon (aZ n):=zL _
theorem HO (h:Canon a):aZ (num a)=a:=uu (gF _) h (aP _)
theorem OQ (a:Bytes):iJ a=aZ (num a):=uu (zL _) (gF _) (by rw[ER,aP])
theorem jK {k n:Nat} (h:n<256^k):iJ (be k n)=aZ n:=by rw[OQ,yS,bM h]
theorem Mo:aZ 0=[]:=by decide
theorem mN {n k:Nat}:(aZ n).length<=k↔n<256^k:=by
 constructor
 ·intro h;have:=cu (aZ n);rw[aP]at this;exact ba this (cW (by decide) h)
 ·intro h
  by_cases hne:aZ n=[]
  ·simp[hne]
  ·have h1:=nO (gF n) hne;rw[aP]at h1;have h3:256^((aZ n).length-1)<256^k:=by omega
   have:=(qu (by decide:1<256)).1 h3
   omega
theorem wz {m n:Nat}:aZ m=aZ n↔m=n:=⟨fun h=>by rw[<-aP m,h,aP],fun h=>by rw[h]⟩
theorem gR {n:Nat}:aZ n=[]↔n=0:=by rw[<-Mo];exact wz
theorem rP (a:Bytes):aa a=true↔a.length<=128/\Canon a:=by
 unfold aa Canon
 cases a with
 |nil=>simp
 |cons x r=>simp
theorem bY (h:aa a=true):Canon a:=((rP a).1 h).2
theorem eU (h:aa a=true):aZ (num a)=a:=HO (bY h)
theorem eu (h:aa a=true):a.length<=128:=((rP a).1 h).1
theorem oH (h:aa a=true):num a<256^128:=ba (cu a) (cW (by decide) (eu h))
theorem kx {n:Nat} (h:n<256^128):aa (aZ n)=true:=(rP _).2 ⟨mN.2 h,gF n⟩
theorem sK (ha:aa a=true):num a=0↔a=[]:=by
 constructor
 ·intro h;exact uu (bY ha) (.inl rfl) h
 ·intro h;subst h;rfl
theorem uJ (a:Bytes) {i:Nat} (h:i<a.length):(a.getD (a.length-1-i) 0).toNat=num a/256^i%256:=by
 have e:a=a.take (a.length-1-i)++(a.getD (a.length-1-i) 0::a.drop (a.length-i)):=by
  have h2:a.length-1-i<a.length:=by omega
  conv=>lhs;rw[<-tN (a.length-1-i) a,jL h2]
  rw[show a.length-1-i+1=a.length-i by omega]
  simp[bR,h2]
 have hl:(a.drop (a.length-i)).length=i:=by simp;omega
 have hn:=yR (a.take (a.length-1-i)) (a.getD (a.length-1-i) 0::a.drop (a.length-i));rw[<-e]at hn;simp only[num,List.length_cons,hl]at hn;have hlt:=cu (a.drop (a.length-i));rw[hl]at hlt;generalize (a.getD (a.length-1-i) 0)=c at hn⊢;have hc:=c.toNat_lt;have:num a=(num (a.take (a.length-1-i))*256+c.toNat)*256^i+num (a.drop (a.length-i)):=by
  rw[hn,Nat.pow_succ,cO,cr,bw 256];omega
 rw[this,bw _ (256^i),wX (jn _),iO hlt];omega
theorem rD (a:Bytes) {i:Nat} (h:a.length<=i):num a/256^i=0:=iO (ba (cu a) (cW (by decide) h))
theorem vG (x y:UInt8) {r s:Bytes} (hl:r.length=s.length):num (x::r)<num (y::s)↔x.toNat<y.toNat\/(x=y/\num r<num s):=by
 simp only[num,hl];have h1:=cu r;have h2:=cu s;rw[hl]at h1;generalize 256^s.length=p at h1 h2⊢;rcases DH x.toNat y.toNat with h|h|h
 ·have:=cK p (show x.toNat+1<=y.toNat from h)
  rw[cO]at this;simp only[h,true_or,iff_true];omega
 ·have:x=y:=jN.1 h;subst this;simp
 ·have:=cK p (show y.toNat+1<=x.toNat from h)
  rw[cO]at this;have hne:x≠y:=fun e=>by subst e;omega
  simp only[hne,false_and,or_false];omega
theorem iP (hb:Canon b) (h:a.length<b.length):num a<num b:=by
 have h1:=cu a;have h2:=nO hb (by intro e;subst e;simp at h)
 exact ba h1 (fV (cW (by decide) (by omega)) h2)
theorem I7 {α:Type} (l m:List α) (x y:α):(l++x::m).set l.length y=l++y::m:=by simp
theorem Hv (k:Nat):(List.replicate (k+1) (0:UInt8))=List.replicate k 0++[0]:=by rw[List.replicate_succ']
theorem iE {n i:Nat} (hi:i<n) (c:UInt8) (b:Bytes):(List.replicate (n-i) (0:UInt8)++b).set (n-1-i) c=List.replicate (n-(i+1)) 0++(c::b):=by
 obtain⟨k,rfl⟩: ∃k,n=k+i+1:=⟨n-i-1,by omega⟩
 rw[show k+i+1-i=k+1 by omega,show k+i+1-1-i=k by omega,show k+i+1-(i+1)=k by omega,Hv]
 have:=I7 (List.replicate k (0:UInt8)) b 0 c;simpa using this
end Go.Dom
namespace Go.Dom
open Go
variable {a b k v:Nat} {f g:Nat->Nat}
def dv (x k:Nat):Nat:=x/256^k%256
def wB (x:Int) (k:Nat):Int:=x/256^k%256
theorem wC (x k:Nat):wB x k=(dv x k:Nat):=by
 unfold wB dv;rw[Int.natCast_emod,Int.natCast_ediv,Int.natCast_pow];rfl
theorem HZ (x:Int) (k:Nat):0<=wB x k/\wB x k<256:=⟨oZ _ (by decide),qE _ (by decide)⟩
theorem KA (i:Nat):(0:Int)<256^i:=Int.pow_pos (by decide)
def cy (U V a:Int) (i:Nat):Int:=(U%256^i+a*(V%256^i))/256^i
theorem HX (U V a:Int):cy U V a 0=0:=by simp[cy,Int.emod_one]
theorem Gj (U V a:Int) (i:Nat):(U+a*V)/256^i=cy U V a i+(U/256^i+a*(V/256^i)):=by
 have hB:=KA i;unfold cy;have e1:=qv U (256^i);have e2:=qv V (256^i);have e:U+a*V=(U%256^i+a*(V%256^i))+256^i*(U/256^i+a*(V/256^i)):=by
  rw[nu,Dq (256^i) a];have:a*V=a*(V%256^i)+a*(256^i*(V/256^i)):=by rw[<-nu,e2]
  omega
 rw[e,Int.add_mul_ediv_left _ _ (Int.ne_of_gt hB)]
theorem Qn (U V a:Int) (i:Nat):cy U V a (i+1)=(wB U i+a*wB V i+cy U V a i)/256:=by
 have hB:=KA i;have h (W:Int):W%256^(i+1)=W%256^i+256^i*wB W i:=by
  unfold wB;refine((Db (q:=W/256^i/256) (KA (i+1))).2 ⟨?_,?_,?_⟩).2
  ·have e1:=qv W (256^i);have e2:=qv (W/256^i) 256;have:256^i*(W/256^i)=256^i*(W/256^i%256)+256^i*(256*(W/256^i/256)):=by rw[<-nu,e2]
   rw[Int.pow_succ,pg];omega
  ·have:=oZ W (Int.ne_of_gt hB);have:=Int.mul_nonneg (Int.le_of_lt hB) (oZ (W/256^i) (by decide:(256:Int)≠0))
   omega
  ·have h1:=qE W hB;have h2:=qE (W/256^i) (by decide:(0:Int)<256)
   have h3:256^i*(W/256^i%256)<=256^i*255:=Int.mul_le_mul_of_nonneg_left (by omega) (Int.le_of_lt hB)
   rw[Int.pow_succ];omega
 have e:U%256^(i+1)+a*(V%256^(i+1))=(U%256^i+a*(V%256^i))+256^i*(wB U i+a*wB V i):=by
  rw[h U,h V,nu,nu,Dq a];omega
 show(_+ _)/ _= _;rw[e,Int.pow_succ,<-Int.ediv_ediv_of_nonneg (Int.le_of_lt hB),Int.add_mul_ediv_left _ _ (Int.ne_of_gt hB)];congr 1;unfold cy;omega
theorem HW (U V a:Int) (i:Nat):wB U i+a*wB V i+cy U V a i=256*cy U V a (i+1)+wB (U+a*V) i:=by
 have h1:=Qn U V a i;have h2:=Gj U V a i;have e:wB (U+a*V) i=(wB U i+a*wB V i+cy U V a i)%256:=by
  unfold wB;rw[h2];have e1:=qv (U/256^i) 256;have e2:=qv (V/256^i) 256;have e3:a*(V/256^i)=a*(V/256^i%256)+256*(a*(V/256^i/256)):=by
   rw[Dq,<-nu,e2]
  have:cy U V a i+(U/256^i+a*(V/256^i))=(U/256^i%256+a*(V/256^i%256)+cy U V a i)+256*(U/256^i/256+a*(V/256^i/256)):=by omega
  rw[this,C4]
 rw[h1,e];omega
theorem Ng {R D n:Nat} (hn:1<=n) (h1:128*256^(n-1)<=D) (h2:D<256^n) (hR:R<256*D):
  128<=dv D (n-1)/\R/D<=(dv R n*256+dv R (n-1))/dv D (n-1)/\R/D<=255:=by
 obtain⟨k,rfl⟩: ∃k,n=k+1:=⟨n-1,by omega⟩
 rw[o6]at h1⊢;have hB:0<256^k:=il (by decide)
 rw[Nat.pow_succ]at h2;have hD0:0<D:=by omega
 have v1:D/256^k<256:=by rw[iL hB];omega
 have v2:128<=D/256^k:=(tC hB).2 h1;have v3:dv D k=D/256^k:=bM v1;have u1:R/256^k<65536:=by rw[iL hB];omega
 have u3:dv R (k+1)*256+dv R k=R/256^k:=by
  unfold dv;rw[Nat.pow_succ,<-fj];clear v1 v2 v3 h1 h2;generalize R/256^k=y at*;omega
 rw[v3,u3];have hRD:R/D<256:=by
  rw[iL hD0];exact hR
 refine⟨v2,?_,by omega⟩
 rw[tC (by omega),tC hB,cr]
 exact fV (lu _ (tV _ _)) (tV _ _)
theorem Em (x i s:Nat) (hs:s<=7):dv (x*2^s) (i+1)=dv x (i+1)*2^s%256+dv x i/2^(8-s):=by
 unfold dv;have hB:0<256^i:=il (by decide)
 obtain⟨y,hy⟩: ∃y,y=x/256^i:=⟨_,rfl⟩;obtain⟨e,he,hlt⟩: ∃e,x*2^s/256^i=y*2^s+e/\e<2^s:=by
  refine⟨x%256^i*2^s/256^i,?_,?_⟩
  ·have:x*2^s=x%256^i*2^s+256^i*(y*2^s):=by
    rw[<-cr,<-cO,hy,Nat.mod_add_div]
   rw[this,ny _ _ hB,gJ]
  ·rw[iL hB,bw];exact Jg (aL _ hB) (il (by decide))
 rw[Nat.pow_succ,<-fj,<-fj,he,<-hy];clear hy he hB;obtain rfl|rfl|rfl|rfl|rfl|rfl|rfl|rfl:s=0\/s=1\/s=2\/s=3\/s=4\/s=5\/s=6\/s=7:=by omega
 all_goals simp only[Nat.pow_zero,Nat.reducePow,Nat.reduceSub]at hlt⊢;omega
theorem AP (x s:Nat):dv (x*2^s) 0=dv x 0*2^s%256:=by
 unfold dv;rw[Nat.pow_zero,jO,jO,lj]
theorem Gn (x i s:Nat) (hs:s<=7):(dv x i+dv x (i+1)*256)/2^s%256=dv (x/2^s) i:=by
 unfold dv;rw[fj,bw (2^s),<-fj,Nat.pow_succ,<-fj];generalize x/256^i=y;obtain rfl|rfl|rfl|rfl|rfl|rfl|rfl|rfl:s=0\/s=1\/s=2\/s=3\/s=4\/s=5\/s=6\/s=7:=by omega
 all_goals simp only[Nat.pow_zero,Nat.reducePow];omega
theorem py (x k:Nat):dv x k<256:=aL _ (by decide)
theorem Gm {x:Nat} (h:x<256^k):dv x k=0:=by unfold dv;rw[iO h]
def dl (N:Nat) (f:Nat->Nat):List Nat:=(List.range N).map f
theorem mn (N:Nat) (f:Nat->Nat):(dl N f).length=N:=by simp[dl]
theorem uz {N:Nat} (h:k<N):(dl N f).getD k 0=f k:=by simp[dl,bR,h]
theorem x9 {N:Nat} (h: ∀k,k<N->f k=g k):dl N f=dl N g:=qA fun k hk=>h k (fE.1 hk)
theorem BZ {N:Nat} {p:Nat} (hv:p<N->g p=v) (h: ∀k,k<N->k≠p->g k=f k):(dl N f).set p v=dl N g:=by
 refine tL (by simp[dl]) fun k h1 h2=> ?_
 have hk:k<N:=by simpa[dl]using h2
 rw[List.getElem_set]
 by_cases hp:p=k
 ·subst hp;simp[dl,hv hk]
 ·rw[af hp];simp[dl,h k hk (fun e=>hp e.symm)]
def dX (f:Nat->Nat) (j i:Nat) (X:Int) (k:Nat):Nat:=if j<=k/\k<j+i then(wB X (k-j)).toNat else f k
theorem HY (f:Nat->Nat) (j:Nat) (X:Int):dX f j 0 X=f:=by funext k;unfold dX;rw[af (by omega)]
theorem MA {N:Nat} (f:Nat->Nat) (j i:Nat) (X:Int) (hv:(v:Int)=wB X i):(dl N (dX f j i X)).set (i+j) v=dl N (dX f j (i+1) X):=by
 refine BZ (fun _=> ?_) fun k _ hk=> ?_
 ·unfold dX;rw[ah (by omega),show i+j-j=i by omega,<-hv,Int.toNat_natCast]
 ·unfold dX
  by_cases h:j<=k/\k<j+i
  ·rw[ah h,ah (by omega)]
  ·rw[af h,af (by omega)]
theorem SI (f:Nat->Nat) (j i:Nat) (X:Int):dX f j i X (i+j)=f (i+j):=by unfold dX;rw[af (by omega)]
theorem Xn (f:Nat->Nat) {j i n:Nat} (X:Int) (h:i<n):((dX f j n X (i+j):Nat):Int)=wB X i:=by
 unfold dX;rw[ah (by omega),show i+j-j=i by omega]
 have:=(HZ X i).1;omega
theorem Uy (f:Nat->Nat) (j n:Nat) (X:Int):dX f j n X (j+n)=f (j+n):=by unfold dX;rw[af (by omega)]
theorem Qq {R j n X:Nat} (hR:R<256^(j+n+1)) (hX:X<256^n) (k:Nat):(if k=j+n then 0 else dX (dv R) j n X k)=dv (X*256^j+R%256^j) k:=by
 have hj:0<256^j:=il (by decide)
 have hlo:R%256^j<256^j:=aL _ hj
 by_cases hk:k<j
 ·rw[af (by omega),dX,af (by omega)]
  obtain⟨d,rfl⟩: ∃d,j=k+1+d:=⟨j-k-1,by omega⟩
  have e1:X*256^(k+1+d)+R%256^(k+1+d)=R%256^(k+1+d)+256^(k+1)*(256^d*X):=by
   rw[<-cr,<-cF,bw X];omega
  have e2 (Y:Nat):dv Y k=Y%256^(k+1)/256^k:=by
   unfold dv;rw[Nat.pow_succ,qD]
  rw[e2,e2,e1,tK,tQ _ (Dj 256 (by omega))]
 ·obtain⟨d,rfl⟩: ∃d,k=j+d:=⟨k-j,by omega⟩
  have e:dv (X*256^j+R%256^j) (j+d)=dv X d:=by
   unfold dv;rw[cF,<-fj,gJ,bw X,ny _ _ hj,iO hlo,fG]
  rw[e]
  by_cases hd:d=n
  ·subst hd;rw[ah rfl,Gm hX]
  ·rw[af (by omega)]
   unfold dX
   by_cases hdn:d<n
   ·rw[ah (by omega),Nat.add_sub_cancel_left,wC,Int.toNat_natCast]
   ·rw[af (by omega),Gm (ba hX (cW (by decide) (by omega))),Gm (ba hR (cW (by decide) (by omega)))]
theorem Cg (h:a<9223372036854775808):my .i64 (a:Int) 255=((a%256:Nat):Int):=by
 unfold my;have h1:(BitVec.ofInt 64 (a:Int)&&&BitVec.ofInt 64 255).toNat=a%256:=by
  rw[BitVec.toNat_and,BitVec.ofInt_natCast,kC,show(BitVec.ofInt 64 255).toNat=2^8-1 from rfl,bM (by omega),Jf]
 show IntKind.i64.wrap ((BitVec.ofInt 64 (a:Int)&&&BitVec.ofInt 64 255).toNat:Int)= _;rw[h1,IntWalk.i64_in _ (by omega)]
theorem Xv (ha:a<9223372036854775808) (hb:b<9223372036854775808):Gu .i64 (a:Int) (b:Int)=((a|||b:Nat):Int):=by
 unfold Gu;have h1:(BitVec.ofInt 64 (a:Int)|||BitVec.ofInt 64 (b:Int)).toNat=a|||b:=by
  rw[BitVec.toNat_or,BitVec.ofInt_natCast,BitVec.ofInt_natCast,kC,kC,bM (by omega),bM (by omega)]
 show IntKind.i64.wrap ((BitVec.ofInt 64 (a:Int)|||BitVec.ofInt 64 (b:Int)).toNat:Int)= _;have h2:a|||b<2^63:=Nat.or_lt_two_pow (by omega) (by omega)
 rw[h1,IntWalk.i64_in _ (by omega)]
theorem orS {a b s:Nat} (hs:s<=8) (ha:a<256) (hb:b<2^s):Gu .i64 ((a*2^s:Nat):Int) (b:Int)=((a*2^s+b:Nat):Int):=by
 have h1:2^s<=2^8:=cW (by decide) hs
 have h2:a*2^s<=256*2^8:=jq (kB ha) h1;rw[Xv (by omega) (by omega),bw,<-Ji hb]
theorem orL (ha:a<256) (hb:b<256):Gu .i64 (b:Int) ((a*256:Nat):Int)=((b+a*256:Nat):Int):=by
 rw[Xv (by omega) (by omega),Nat.or_comm,bw,<-Ji (i:=8) hb]
 omega
