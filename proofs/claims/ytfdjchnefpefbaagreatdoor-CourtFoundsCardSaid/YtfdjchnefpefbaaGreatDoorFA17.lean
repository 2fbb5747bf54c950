/-
  Part of the proof, part FA17. Own work.
-/
import Derived.Test.YtfdjchnefpefbaaGreatDoorFA16
set_option linter.all false
namespace Go.Dom
theorem UU (x:Int):IntKind.u8.wrap x=x%256:=su x
theorem JF (x:Int):IntKind.u32.wrap x=x%4294967296:=IntKind.wrap_u32 x
theorem zp (x:Int):IntKind.u64.wrap x=x%18446744073709551616:=by simp[IntKind.wrap,IntKind.bits,IntKind.signed]
theorem AW (a b:Nat):(a:Int).fdiv (b:Int)=((a/b:Nat):Int):=by
 rw[HM _ (by omega)];rfl
theorem Pe (a k:Nat):(a:Int).fdiv (2^k)=((a/2^k:Nat):Int):=by
 have:((2:Int)^k)=((2^k:Nat):Int):=by simp
 rw[this,AW]
theorem j4 (a:Nat):IntKind.u8.wrap (a:Int)=((UInt8.ofNat a).toNat:Int):=by
 rw[UU,gG];omega
theorem fC (w a:Nat):BitVec.ofInt w (a:Int)=BitVec.ofNat w a:=BitVec.ofInt_natCast w a
theorem NI (k:IntKind) (hk:k.signed=false) (x:Nat):k.wrap (x:Int)=((x%2^k.bits:Nat):Int):=by
 simp[IntKind.wrap,hk]
theorem Tk (k:IntKind) (hk:k.signed=false) {a b:Nat} (ha:a<2^k.bits) (hb:b<2^k.bits):EZ k (a:Int) (b:Int)=((a|||b:Nat):Int):=by
 rw[EZ,fC,fC,BitVec.toNat_or,jL,jL,aV ha,aV hb,NI k hk,aV (Nat.or_lt_two_pow ha hb)]
theorem Lw (k:IntKind) (hk:k.signed=false) {a b:Nat} (ha:a<2^k.bits) (hb:b<2^k.bits):lk k (a:Int) (b:Int)=((a&&&b:Nat):Int):=by
 rw[lk,fC,fC,BitVec.toNat_and,jL,jL,aV ha,aV hb,NI k hk,aV (Nat.and_lt_two_pow _ hb)]
theorem Rp (k:IntKind) (hk:k.signed=false) {a b:Nat} (ha:a<2^k.bits) (hb:b<2^k.bits):Dm k (a:Int) (b:Int)=((a^^^b:Nat):Int):=by
 rw[Dm,fC,fC,BitVec.toNat_xor,jL,jL,aV ha,aV hb,NI k hk,aV (Nat.xor_lt_two_pow ha hb)]
theorem DC {x c k:Nat} (h:c<2^k):x*2^k|||c=x*2^k+c:=by
 rw[<-Nat.shiftLeft_eq,Nat.shiftLeft_add_eq_or_of_lt h]
theorem J6 (x k:Nat):x&&&(2^k-1)=x%2^k:=HJ x k
theorem qo (l:List PV):chunk 1 l.length l=l:=by
 induction l with
 |nil=>rfl
 |cons x r ih=>simp[chunk,ih]
theorem Ep {hf:Nat->Option au} {f n ver:Nat} {l:Bytes} {gr:Bool} {el:Option TypeId} {m:Nat} (hm:m=l.length) (h:hf n=some ⟨ver,ay l,gr,el⟩):
  view hf (f+2) (.rs n ver 0 m 1)=some (.sl (l.map u8)):=by
 subst hm;have h1:aQ (view hf (f+1)) (ay l)=some (l.map u8):=by
  have:=eJ hf f (l.map u8);rw[iQ]at this;exact this
 have h2:(ay l).all AV.one=true:=by simp[ay,AV.one,PV.one,u8]
 have h3:chunk 1 l.length (l.map u8)=l.map u8:=by have:=qo (l.map u8);simpa using this
 simp[view,h,iC,h2,iV,h1,h3]
theorem BU {hf:Nat->Option au} {f n ver:Nat} {l:Bytes} {gr:Bool} {el:Option TypeId} {m:Nat} (hm:m=l.length) (h:hf n=some ⟨ver,ay l,gr,el⟩):
  aL hf (f+2) (.rs n ver 0 m 1)=[n]:=by
 subst hm;have h1:(ay l).flatMap (aL hf (f+1))=[]:=by
  unfold ay
  induction l with
  |nil=>rfl
  |cons x r ih=>simp_all[aL]
 simp[aL,h,iV,h1]
theorem fZ {P:Program} [bY P] {Q:AX->AS->Prop} {nx:Nat} {bf:Option (List Nat)} {nn:Nat} {d:Option Nat} {ops:List jd} {k:Nat} {s:AS} {tr:List (Nat×List Nat×List Nat)} {K:List Fr} {nm:Nat} {f:FuncId} {n ver m:Nat} {l:Bytes} {gr:Bool} {el:Option TypeId} {r:PV}
  (he:aA P f [.sl (l.map u8)] r) (hr:r.flat=true) (hg:aj s.h n=some ⟨ver,ay l,gr,el⟩) (hm:m=l.length) (hK:RW P Q nx bf nn ops (k+1) (s.um d (.v r) []) (At bf k [n] [] tr) K):
  CR P Q nx bf nn nm (.v (.fn (.func f))) [.rs n ver 0 m 1] d ops k s tr K:=by
 refine o9 he ?_ hr ?_
 ·simp[aQ,Ep hm hg]
 ·have:[AV.rs n ver 0 m 1].flatMap (aL (aj s.h) 9)=[n]:=by simp[BU hm hg]
  rw[this];exact hK
theorem qZ {l:Bytes} {o:Nat} {x:Int} {c:UInt8} (h:o<l.length) (hx:x=(c.toNat:Int)):(ay l).take o++[.v (.i .u8 x)]++(ay l).drop (o+1)=ay (l.set o c):=by
 subst hx;unfold ay;rw[sr,vL];simp[h,u8]
theorem VU (a n:Nat):(a:Int).fdiv (no_index (OfNat.ofNat n))=((a/(OfNat.ofNat n):Nat):Int):=AW a n
theorem WA (a b:Nat):(a:Int).tdiv (b:Int)=((a/b:Nat):Int):=rfl
theorem WD (a b:Nat):(a:Int).tmod (b:Int)=((a%b:Nat):Int):=rfl
theorem Wz (a n:Nat):(a:Int).tdiv (no_index (OfNat.ofNat n))=((a/(OfNat.ofNat n):Nat):Int):=rfl
theorem WC (a n:Nat):(a:Int).tmod (no_index (OfNat.ofNat n))=((a%(OfNat.ofNat n):Nat):Int):=rfl
theorem uw (a:Nat):IntKind.u64.wrap (a:Int)=((a%18446744073709551616:Nat):Int):=by rw[zp];omega
theorem za (a b:Nat):IntKind.u64.wrap ((a:Int)*(b:Int))=((a*b%18446744073709551616:Nat):Int):=by rw[<-Int.natCast_mul,uw]
theorem rF (a n:Nat):IntKind.u64.wrap ((a:Int)*(no_index (OfNat.ofNat n)))=((a*(OfNat.ofNat n)%18446744073709551616:Nat):Int):=za a n
theorem xT (a n:Nat):IntKind.u64.wrap ((no_index (OfNat.ofNat n))*(a:Int))=(((OfNat.ofNat n)*a%18446744073709551616:Nat):Int):=za n a
theorem FM (a k:Nat):IntKind.u64.wrap ((a:Int)*2^k)=((a*2^k%18446744073709551616:Nat):Int):=by
 have:=za a (2^k);simpa using this
theorem CL (a b:Nat):IntKind.u64.wrap ((a:Int)+(b:Int))=(((a+b)%18446744073709551616:Nat):Int):=by rw[<-Int.natCast_add,uw]
theorem wK (a n:Nat):IntKind.u64.wrap ((a:Int)+(no_index (OfNat.ofNat n)))=(((a+(OfNat.ofNat n))%18446744073709551616:Nat):Int):=CL a n
theorem BM (a b:Nat):IntKind.u64.wrap ((a:Int)-(b:Int))=(((a+(18446744073709551616-b%18446744073709551616))%18446744073709551616:Nat):Int):=by rw[zp];omega
theorem yG (a n:Nat):IntKind.u64.wrap ((a:Int)-(no_index (OfNat.ofNat n)))=(((a+(18446744073709551616-(OfNat.ofNat n)%18446744073709551616))%18446744073709551616:Nat):Int):=BM a n
theorem yF (a n:Nat):IntKind.u64.wrap ((no_index (OfNat.ofNat n))-(a:Int))=((((OfNat.ofNat n)+(18446744073709551616-a%18446744073709551616))%18446744073709551616:Nat):Int):=BM n a
theorem X8 (a b:Nat):lk .u64 (a:Int) (b:Int)=(((a%18446744073709551616)&&&(b%18446744073709551616):Nat):Int):=by
 have h:=Lw .u64 rfl (a:=a%18446744073709551616) (b:=b%18446744073709551616) (aD _ (by decide)) (aD _ (by decide))
 rw[<-h];unfold lk;simp only[fC];congr 4<;>(apply BitVec.eq_of_toNat_eq;simp[IntKind.bits])
theorem qj (a:Nat):lk .u64 (a:Int) 4294967295=((a%4294967296:Nat):Int):=by
 have h:=X8 a 4294967295;have e:(a%18446744073709551616)&&&(4294967295%18446744073709551616)=a%4294967296:=by
  have:=J6 (a%18446744073709551616) 32;rw[show(4294967295%18446744073709551616:Nat)=2^32-1 from rfl,this];omega
 rw[e]at h;exact h
theorem Zb {x:Nat} (h:x<256):IntKind.u8.wrap (x:Int)=(x:Int):=IntWalk.u8_in _ (by omega)
attribute [go_sem] VU Pe WA WD Wz WC
def aq (k:IntKind) (l:List Nat):List AV:=l.map fun x:Nat=> .v (.i k (x:Int))
theorem aP (k:IntKind) (l:List Nat):(aq k l).length=l.length:=by simp[aq]
theorem qw (k:IntKind) (n:Nat):(List.replicate n [AV.v (PV.i k 0)]).flatten=aq k (List.replicate n 0):=by
 induction n with
 |zero=>rfl
 |succ n ih=>simp[List.replicate_succ,aq]at ih⊢
theorem cH {k:IntKind} {l:List Nat} {i:Nat} (h:i<l.length):(aq k l).getD i .u= .v (.i k (l.getD i 0:Nat)):=by
 simp[aq,aR,h]
theorem dx {k:IntKind} {l:List Nat} {o x:Nat} {y:Int} (h:o<l.length) (hy:y=(x:Int)):(aq k l).take o++[.v (.i k y)]++(aq k l).drop (o+1)=aq k (l.set o x):=by
 subst hy;unfold aq;rw[sr,vL];simp[h]
theorem ar (k:IntKind) (l:List Nat) (n:Nat):(∀y,y∈aq k l->y.bd n=true)=True:=by
 simp only[eq_iff_iff,iff_true];intro y hy;obtain⟨c,-,rfl⟩:=bw.1 hy;rfl
theorem DR (f:Nat->Option Nat) (k:IntKind) (l:List Nat):AV.aF.renL f (aq k l)=some (aq k l):=by
 induction l with
 |nil=>rfl
 |cons c l ih=>
  have:AV.aF.renL f (AV.v (.i k c)::aq k l)=some (AV.v (.i k c)::aq k l):=by simp[AV.aF.renL,AV.aF,ih]
  exact this
structure Hid (p:Prop):Prop where
 v:p
end Go.Dom
namespace Go.Dom
open Go.RowKit
section
variable {P:Program} [bY P] {Q:AX->AS->Prop}
theorem cP {nx:Nat} {bf:Option (List Nat)} {n:Nat} {d:Option Nat} {ops:List jd} {k:Nat} {s:AS} {tr:List (Nat×List Nat×List Nat)} {K:List Fr} {nm:Nat} {f:FuncId} {avs:List AV} {pvs:List PV} {r:PV} (he:aA P f pvs r) (hK:RW P Q nx bf n ops (k+1) (s.um d (.v r) []) (At bf k [] [] tr) K) (ha:mM avs=some pvs:=by exact rfl):
  CR P Q nx bf n nm (.v (.fn (.func f))) avs d ops k s tr K:=il he ha hK
theorem cV {nx:Nat} {bf:Option (List Nat)} {n:Nat} {d:Option Nat} {ops:List jd} {k:Nat} {s:AS} {tr:List (Nat×List Nat×List Nat)} {K:List Fr} {nm:Nat} {f:FuncId} {avs:List AV} {pvs:List PV} {r:PV} (he:aA P f pvs r) (hK:RW P Q nx bf n ops (k+1) (s.um d (.v r) []) (At bf k (avs.flatMap (aL (aj s.h) 9)) [] tr) K) (ha:aQ (view (aj s.h) 9) avs=some pvs:=by exact rfl) (hr:r.flat=true:=by exact rfl):
  CR P Q nx bf n nm (.v (.fn (.func f))) avs d ops k s tr K:=o9 he ha hr hK
theorem bP:(∀(c:Bool) (κ:BK),c=true->BX P Q c κ=BX P Q true κ)/\(∀(c:Bool) (κ:BK),c=false->BX P Q c κ=BX P Q false κ)/\(∀(p:Prop) (κ:BK),p->PX P Q p κ=BX P Q true κ)/\(∀(p:Prop) (κ:BK),¬p->PX P Q p κ=BX P Q false κ):=
 ⟨fun _ _ h=>NY h,fun _ _ h=>NX h,fun _ _ h=>JV h,fun _ _ h=>JU h⟩
theorem pX {p:Prop} {κ:BK} (h1:p->BX P Q true κ) (h2: ¬p->BX P Q false κ):PX P Q p κ:=PX.mk h1 h2
theorem bX {c:Bool} {κ:BK} (h1:c=true->BX P Q true κ) (h2:c=false->BX P Q false κ):BX P Q c κ:=BX.mk h1 h2
end
theorem bW:(∀n:Int,-9223372036854775808<=n/\n<=9223372036854775807->IntKind.i64.wrap n=n)/\(∀n:Int,0<=n/\n<=18446744073709551615->IntKind.u64.wrap n=n):=⟨IntWalk.i64_in,IntWalk.u64_in⟩
theorem sB {p q:Prop} (h:q) (e:p=q:=by simp(disch:=first|assumption|omega) only[bP,bW]<;>rfl):p:=e▸h
theorem oD {p:Prop} (h:p:=by first|omega|decide):p:=h
theorem lE {t t':List (Nat×AV)} {h h':List (Nat×au)} {n n':Nat} (hn:n<=n':=by first|decide|omega) (ht:dM t' n t:=by simp[dM,dL,aK,aj,AV.bd,AV.bd.bdL,u8,ai,ak,ar]) (hh:dL h' n h:=by simp[dM,dL,aK,aj,AV.bd,AV.bd.bdL,u8,ai,ak,ar]):(AS.mk t h n).Le ⟨t',h',n'⟩:=AS.Le.of hn ht hh
end Go.Dom
namespace Go.Dom
def num:Bytes->Nat
 |[]=>0
 |x::r=>x.toNat*256^r.length+num r
def be:Nat->Nat->Bytes
 |0,_=>[]
 |k+1,n=>UInt8.ofNat (n/256^k)::be k n
def gD:Bytes->Bytes
 |[]=>[]
 |x::r=>if x=0 then gD r else x::r
def aO (n:Nat):Bytes:=gD (be (n.log2/8+1) n)
def aa (a:Bytes):Bool:=decide (a.length<=128)&&(a.length==0||a.headD 0 !=0)
theorem cj (k n:Nat):(be k n).length=k:=by induction k<;>simp_all[be]
theorem iG (k:Nat):0<256^k:=fI (by decide)
theorem cb (a:Bytes):num a<256^a.length:=by
 induction a with
 |nil=>decide
 |cons x r ih=>
  simp only[num,List.length_cons,Nat.pow_succ];have:=x.toNat_lt;have h2:x.toNat*256^r.length<=255*256^r.length:=cF _ (by omega)
  omega
theorem xV (a b:Bytes):num (a++b)=num a*256^b.length+num b:=by
 induction a with
 |nil=>simp[num]
 |cons x r ih=>simp only[List.cons_append,num,ih,bm,ct,cu,bQ];omega
theorem Dx (a:Bytes) (x:UInt8):num (a++[x])=num a*256+x.toNat:=by simp[xV,num]
theorem xW (k n:Nat):num (be k n)=n%256^k:=by
 induction k with
 |zero=>simp[be,num,kQ]
 |succ k ih=>
  simp only[be,num,cj,ih,gG];have h:=nX (x:=n) (a:=256^k) (b:=256);rw[show(256:Nat)^(k+1)=256^k*256 from Nat.pow_succ ..,h,bc (256^k)]
  show n/256^k%256*256^k+n%256^k= _;omega
theorem AE (a:Bytes):be a.length (num a)=a:=by
 induction a with
 |nil=>rfl
 |cons x r ih=>
  have h:num (x::r)=x.toNat*256^r.length+num r:=rfl;have h1:=cb r;have h2:num (x::r)/256^r.length=x.toNat:=by
   rw[h,bc,vM (iG _),gI h1];omega
  have h3: ∀k m m',m%256^k=m'%256^k->be k m=be k m':=by
   intro k
   induction k with
   |zero=>intros;rfl
   |succ k ih=>
    intro m m' hm;have e1:m/256^k%256=m'/256^k%256:=by
     rw[Nat.pow_succ]at hm;have a1:=nX (x:=m) (a:=256^k) (b:=256);have a2:=nX (x:=m') (a:=256^k) (b:=256);have b1:m%(256^k*256)/256^k=m/256^k%256:=by rw[pK]
     have b2:m'%(256^k*256)/256^k=m'/256^k%256:=by rw[pK]
     rw[<-b1,<-b2,hm]
    have e2:m%256^k=m'%256^k:=by
     have a1:m%256^(k+1)%256^k=m%256^k:=ss _ (Cz 256 (Nat.le_succ k));have a2:m'%256^(k+1)%256^k=m'%256^k:=ss _ (Cz 256 (Nat.le_succ k));rw[<-a1,<-a2,hm]
    simp only[be,ih m m' e2];congr 1;apply iP.1;simpa using e1
  simp only[List.length_cons,be,h2];rw[show UInt8.ofNat x.toNat=x by simp,h3 r.length (num (x::r)) (num r) (by rw[h,Nat.mul_add_mod_self_right]),ih]
theorem yJ (a:Bytes): ∃k,a=List.replicate k 0++gD a/\(gD a=[]\/(gD a).headD 0≠0):=by
 induction a with
 |nil=>exact⟨0,rfl, .inl rfl⟩
 |cons x r ih=>
  simp only[gD];split
  ·rename_i h;subst h;obtain⟨k,e,h⟩:=ih;exact⟨k+1,by simp[List.replicate_succ,<-e],h⟩
  ·rename_i h;exact⟨0,rfl, .inr h⟩
theorem IU (k:Nat) (a:Bytes):num (List.replicate k 0++a)=num a:=by
 induction k with
 |zero=>rfl
 |succ k ih=>simp[List.replicate_succ,num,ih]
theorem Dy (a:Bytes):num (gD a)=num a:=by
 obtain⟨k,e,-⟩:=yJ a
 conv=>rhs;rw[e,IU]
def Canon (a:Bytes):Prop:=a=[]\/a.headD 0≠0
theorem yK (a:Bytes):Canon (gD a):=by obtain⟨k,-,h⟩:=yJ a;exact h
theorem mU {a:Bytes} (h:Canon a) (hne:a≠[]):256^(a.length-1)<=num a:=by
 cases a with
 |nil=>exact absurd rfl hne
 |cons x r=>
  rcases h with h|h
  ·cases h
  ·have hx:0<x.toNat:=by
    rcases j5 x.toNat with e|e
    ·exact absurd (iP.1 e:x=0) h
    ·exact e
   simp only[num,List.length_cons,j8];have:=cF (256^r.length) hx;omega
theorem tj {a b:Bytes} (ha:Canon a) (hb:Canon b) (h:num a=num b):a=b:=by
 have key: ∀{a b:Bytes},Canon a->Canon b->num a=num b->a.length<=b.length:=by
  intro a b ha hb h
  by_cases hne:a=[]
  ·subst hne;simp
  ·have h1:=mU ha hne;have h2:=cb b;have h3:256^(a.length-1)<256^b.length:=by omega
   have:=(pC (by decide:1<256)).1 h3
   omega
 have hl:a.length=b.length:=Ct (key ha hb h) (key hb ha h.symm);have h1:=AE a;rw[h,hl,AE b]at h1;exact h1.symm
theorem PE (n:Nat):n<256^(n.log2/8+1):=by
 have h1:n<2^(n.log2+1):=sG;have h2:(256:Nat)^(n.log2/8+1)=2^(8*(n.log2/8+1)):=by rw[jo]
 rw[h2];exact bj h1 (cI (by decide) (by omega))
theorem aG (n:Nat):num (aO n)=n:=by
 rw[aO,Dy,xW];exact aV (PE n)
theorem gP (n:Nat):Canon (aO n):=yK _
theorem Gn {a:Bytes} (h:Canon a):aO (num a)=a:=tj (gP _) h (aG _)
theorem Ny (a:Bytes):gD a=aO (num a):=tj (yK _) (gP _) (by rw[Dy,aG])
theorem ji {k n:Nat} (h:n<256^k):gD (be k n)=aO n:=by rw[Ny,xW,aV h]
theorem Kx:aO 0=[]:=by decide
theorem nA {n k:Nat}:(aO n).length<=k↔n<256^k:=by
 constructor
 ·intro h;have:=cb (aO n);rw[aG]at this;exact bj this (cI (by decide) h)
 ·intro h
  by_cases hne:aO n=[]
  ·simp[hne]
  ·have h1:=mU (gP n) hne;rw[aG]at h1;have h3:256^((aO n).length-1)<256^k:=by omega
   have:=(pC (by decide:1<256)).1 h3
   omega
theorem Gm {m n:Nat}:aO m=aO n↔m=n:=⟨fun h=>by rw[<-aG m,h,aG],fun h=>by rw[h]⟩
theorem fW {n:Nat}:aO n=[]↔n=0:=by rw[<-Kx];exact Gm
theorem qK (a:Bytes):aa a=true↔a.length<=128/\Canon a:=by
 unfold aa Canon
 cases a with
 |nil=>simp
 |cons x r=>simp
theorem bK {a:Bytes} (h:aa a=true):Canon a:=((qK a).1 h).2
theorem fF {a:Bytes} (h:aa a=true):aO (num a)=a:=Gn (bK h)
theorem cE {a:Bytes} (h:aa a=true):a.length<=128:=((qK a).1 h).1
theorem tQ {a:Bytes} (h:aa a=true):num a<256^128:=bj (cb a) (cI (by decide) (cE h))
theorem py {n:Nat} (h:n<256^128):aa (aO n)=true:=(qK _).2 ⟨nA.2 h,gP n⟩
theorem rI {a:Bytes} (ha:aa a=true):num a=0↔a=[]:=by
 constructor
 ·intro h;exact tj (bK ha) (.inl rfl) h
 ·intro h;subst h;rfl
theorem tP (a:Bytes) {i:Nat} (h:i<a.length):(a.getD (a.length-1-i) 0).toNat=num a/256^i%256:=by
 have e:a=a.take (a.length-1-i)++(a.getD (a.length-1-i) 0::a.drop (a.length-i)):=by
  have h2:a.length-1-i<a.length:=by omega
  conv=>lhs;rw[<-sQ (a.length-1-i) a,iq h2]
  rw[show a.length-1-i+1=a.length-i by omega]
  simp[aR,h2]
 have hl:(a.drop (a.length-i)).length=i:=by simp;omega
 have hn:=xV (a.take (a.length-1-i)) (a.getD (a.length-1-i) 0::a.drop (a.length-i));rw[<-e]at hn;simp only[num,List.length_cons,hl]at hn;have hlt:=cb (a.drop (a.length-i));rw[hl]at hlt;generalize (a.getD (a.length-1-i) 0)=c at hn⊢;have hc:=c.toNat_lt;have:num a=(num (a.take (a.length-1-i))*256+c.toNat)*256^i+num (a.drop (a.length-i)):=by
  rw[hn,Nat.pow_succ,cu,bQ,bc 256];omega
 rw[this,bc _ (256^i),vM (iG _),gI hlt];omega
theorem qy (a:Bytes) {i:Nat} (h:a.length<=i):num a/256^i=0:=gI (bj (cb a) (cI (by decide) h))
theorem uF (x y:UInt8) {r s:Bytes} (hl:r.length=s.length):num (x::r)<num (y::s)↔x.toNat<y.toNat\/(x=y/\num r<num s):=by
 simp only[num,hl];have h1:=cb r;have h2:=cb s;rw[hl]at h1;generalize 256^s.length=p at h1 h2⊢;rcases Ca x.toNat y.toNat with h|h|h
 ·have:=cF p (show x.toNat+1<=y.toNat from h)
  rw[cu]at this;simp only[h,true_or,iff_true];omega
 ·have:x=y:=iP.1 h;subst this;simp
 ·have:=cF p (show y.toNat+1<=x.toNat from h)
  rw[cu]at this;have hne:x≠y:=fun e=>by subst e;omega
  simp only[hne,false_and,or_false];omega
theorem gQ {a b:Bytes} (hb:Canon b) (h:a.length<b.length):num a<num b:=by
 have h1:=cb a;have h2:=mU hb (by intro e;subst e;simp at h)
 exact bj h1 (ft (cI (by decide) (by omega)) h2)
theorem HE {α:Type} (l m:List α) (x y:α):(l++x::m).set l.length y=l++y::m:=by simp
theorem F7 (k:Nat):(List.replicate (k+1) (0:UInt8))=List.replicate k 0++[0]:=by rw[Cm]
theorem gi {n i:Nat} (hi:i<n) (c:UInt8) (b:Bytes):(List.replicate (n-i) (0:UInt8)++b).set (n-1-i) c=List.replicate (n-(i+1)) 0++(c::b):=by
 obtain⟨k,rfl⟩: ∃k,n=k+i+1:=⟨n-i-1,by omega⟩
 rw[show k+i+1-i=k+1 by omega,show k+i+1-1-i=k by omega,show k+i+1-(i+1)=k by omega,F7]
 have:=HE (List.replicate k (0:UInt8)) b 0 c;simpa using this
end Go.Dom
namespace Go.Dom
open Go
def dv (x k:Nat):Nat:=x/256^k%256
def u6 (x:Int) (k:Nat):Int:=x/256^k%256
theorem u7 (x k:Nat):u6 x k=(dv x k:Nat):=by
 unfold u6 dv;rw[Int.natCast_emod,Int.natCast_ediv,Int.natCast_pow];rfl
theorem GC (x:Int) (k:Nat):0<=u6 x k/\u6 x k<256:=⟨fS _ (by decide),gZ _ (by decide)⟩
theorem I4 (i:Nat):(0:Int)<256^i:=Int.pow_pos (by decide)
def cy (U V a:Int) (i:Nat):Int:=(U%256^i+a*(V%256^i))/256^i
theorem GA (U V a:Int):cy U V a 0=0:=by simp[cy,Int.emod_one]
theorem ES (U V a:Int) (i:Nat):(U+a*V)/256^i=cy U V a i+(U/256^i+a*(V/256^i)):=by
 have hB:=I4 i;unfold cy;have e1:=mB U (256^i);have e2:=mB V (256^i);have e:U+a*V=(U%256^i+a*(V%256^i))+256^i*(U/256^i+a*(V/256^i)):=by
  rw[kK,Ck (256^i) a];have:a*V=a*(V%256^i)+a*(256^i*(V/256^i)):=by rw[<-kK,e2]
  omega
 rw[e,vZ _ _ (Int.ne_of_gt hB)]
theorem O0 (U V a:Int) (i:Nat):cy U V a (i+1)=(u6 U i+a*u6 V i+cy U V a i)/256:=by
 have hB:=I4 i;have h (W:Int):W%256^(i+1)=W%256^i+256^i*u6 W i:=by
  unfold u6;refine((Cj (q:=W/256^i/256) (I4 (i+1))).2 ⟨?_,?_,?_⟩).2
  ·have e1:=mB W (256^i);have e2:=mB (W/256^i) 256;have:256^i*(W/256^i)=256^i*(W/256^i%256)+256^i*(256*(W/256^i/256)):=by rw[<-kK,e2]
   rw[Int.pow_succ,kL];omega
  ·have:=fS W (Int.ne_of_gt hB);have:=Int.mul_nonneg (Int.le_of_lt hB) (fS (W/256^i) (by decide:(256:Int)≠0))
   omega
  ·have h1:=gZ W hB;have h2:=gZ (W/256^i) (by decide:(0:Int)<256)
   have h3:256^i*(W/256^i%256)<=256^i*255:=Int.mul_le_mul_of_nonneg_left (by omega) (Int.le_of_lt hB)
   rw[Int.pow_succ];omega
 have e:U%256^(i+1)+a*(V%256^(i+1))=(U%256^i+a*(V%256^i))+256^i*(u6 U i+a*u6 V i):=by
  rw[h U,h V,kK,kK,Ck a];omega
 show(_+ _)/ _= _;rw[e,Int.pow_succ,<-Int.ediv_ediv_of_nonneg (Int.le_of_lt hB),vZ _ _ (Int.ne_of_gt hB)];congr 1;unfold cy;omega
theorem Gz (U V a:Int) (i:Nat):u6 U i+a*u6 V i+cy U V a i=256*cy U V a (i+1)+u6 (U+a*V) i:=by
 have h1:=O0 U V a i;have h2:=ES U V a i;have e:u6 (U+a*V) i=(u6 U i+a*u6 V i+cy U V a i)%256:=by
  unfold u6;rw[h2];have e1:=mB (U/256^i) 256;have e2:=mB (V/256^i) 256;have e3:a*(V/256^i)=a*(V/256^i%256)+256*(a*(V/256^i/256)):=by
   rw[Ck,<-kK,e2]
  have:cy U V a i+(U/256^i+a*(V/256^i))=(U/256^i%256+a*(V/256^i%256)+cy U V a i)+256*(U/256^i/256+a*(V/256^i/256)):=by omega
  rw[this,pL]
 rw[h1,e];omega
theorem Lr {R D n:Nat} (hn:1<=n) (h1:128*256^(n-1)<=D) (h2:D<256^n) (hR:R<256*D):
  128<=dv D (n-1)/\R/D<=(dv R n*256+dv R (n-1))/dv D (n-1)/\R/D<=255:=by
 obtain⟨k,rfl⟩: ∃k,n=k+1:=⟨n-1,by omega⟩
 rw[j8]at h1⊢;have hB:0<256^k:=fI (by decide)
 rw[Nat.pow_succ]at h2;have hD0:0<D:=by omega
 have v1:D/256^k<256:=by rw[gK hB];omega
 have v2:128<=D/256^k:=(sE hB).2 h1;have v3:dv D k=D/256^k:=aV v1;have u1:R/256^k<65536:=by rw[gK hB];omega
 have u3:dv R (k+1)*256+dv R k=R/256^k:=by
  unfold dv;rw[Nat.pow_succ,<-eg];clear v1 v2 v3 h1 h2;generalize R/256^k=y at*;omega
 rw[v3,u3];have hRD:R/D<256:=by
  rw[gK hD0];exact hR
 refine⟨v2,?_,by omega⟩
 rw[sE (by omega),sE hB,bQ]
 exact ft (iw _ (pD _ _)) (pD _ _)
theorem C6 (x i s:Nat) (hs:s<=7):dv (x*2^s) (i+1)=dv x (i+1)*2^s%256+dv x i/2^(8-s):=by
 unfold dv;have hB:0<256^i:=fI (by decide)
 obtain⟨y,hy⟩: ∃y,y=x/256^i:=⟨_,rfl⟩;obtain⟨e,he,hlt⟩: ∃e,x*2^s/256^i=y*2^s+e/\e<2^s:=by
  refine⟨x%256^i*2^s/256^i,?_,?_⟩
  ·have:x*2^s=x%256^i*2^s+256^i*(y*2^s):=by
    rw[<-bQ,<-cu,hy,Nat.mod_add_div]
   rw[this,mz _ _ hB,fT]
  ·rw[gK hB,bc];exact HK (aD _ hB) (fI (by decide))
 rw[Nat.pow_succ,<-eg,<-eg,he,<-hy];clear hy he hB;obtain rfl|rfl|rfl|rfl|rfl|rfl|rfl|rfl:s=0\/s=1\/s=2\/s=3\/s=4\/s=5\/s=6\/s=7:=by omega
 all_goals simp only[Nat.pow_zero,Nat.reducePow,Nat.reduceSub]at hlt⊢;omega
theorem zL (x s:Nat):dv (x*2^s) 0=dv x 0*2^s%256:=by
 unfold dv;rw[Nat.pow_zero,iS,iS,gL]
theorem EW (x i s:Nat) (hs:s<=7):(dv x i+dv x (i+1)*256)/2^s%256=dv (x/2^s) i:=by
 unfold dv;rw[eg,bc (2^s),<-eg,Nat.pow_succ,<-eg];generalize x/256^i=y;obtain rfl|rfl|rfl|rfl|rfl|rfl|rfl|rfl:s=0\/s=1\/s=2\/s=3\/s=4\/s=5\/s=6\/s=7:=by omega
 all_goals simp only[Nat.pow_zero,Nat.reducePow];omega
theorem nZ (x k:Nat):dv x k<256:=aD _ (by decide)
theorem EV {x k:Nat} (h:x<256^k):dv x k=0:=by unfold dv;rw[gI h]
def dl (N:Nat) (f:Nat->Nat):List Nat:=(List.range N).map f
theorem lf (N:Nat) (f:Nat->Nat):(dl N f).length=N:=by simp[dl]
theorem tx {N:Nat} {f:Nat->Nat} {k:Nat} (h:k<N):(dl N f).getD k 0=f k:=by simp[dl,aR,h]
theorem xf {N:Nat} {f g:Nat->Nat} (h: ∀k,k<N->f k=g k):dl N f=dl N g:=ir fun k hk=>h k (cM.1 hk)
theorem AN {N:Nat} {f g:Nat->Nat} {p v:Nat} (hv:p<N->g p=v) (h: ∀k,k<N->k≠p->g k=f k):(dl N f).set p v=dl N g:=by
 refine pI (by simp[dl]) fun k h1 h2=> ?_
 have hk:k<N:=by simpa[dl]using h2
 rw[Cq]
 by_cases hp:p=k
 ·subst hp;simp[dl,hv hk]
 ·rw[if_neg hp];simp[dl,h k hk (fun e=>hp e.symm)]
def dX (f:Nat->Nat) (j i:Nat) (X:Int) (k:Nat):Nat:=if j<=k/\k<j+i then(u6 X (k-j)).toNat else f k
theorem GB (f:Nat->Nat) (j:Nat) (X:Int):dX f j 0 X=f:=by funext k;unfold dX;rw[if_neg (by omega)]
theorem KP {N:Nat} (f:Nat->Nat) (j i:Nat) (X:Int) {v:Nat} (hv:(v:Int)=u6 X i):(dl N (dX f j i X)).set (i+j) v=dl N (dX f j (i+1) X):=by
 refine AN (fun _=> ?_) fun k _ hk=> ?_
 ·unfold dX;rw[if_pos (by omega),show i+j-j=i by omega,<-hv,Int.toNat_natCast]
 ·unfold dX
  by_cases h:j<=k/\k<j+i
  ·rw[if_pos h,if_pos (by omega)]
  ·rw[if_neg h,if_neg (by omega)]
theorem Re (f:Nat->Nat) (j i:Nat) (X:Int):dX f j i X (i+j)=f (i+j):=by unfold dX;rw[if_neg (by omega)]
theorem VS (f:Nat->Nat) {j i n:Nat} (X:Int) (h:i<n):((dX f j n X (i+j):Nat):Int)=u6 X i:=by
 unfold dX;rw[if_pos (by omega),show i+j-j=i by omega]
 have:=(GC X i).1;omega
theorem Tc (f:Nat->Nat) (j n:Nat) (X:Int):dX f j n X (j+n)=f (j+n):=by unfold dX;rw[if_neg (by omega)]
theorem O2 {R j n X:Nat} (hR:R<256^(j+n+1)) (hX:X<256^n) (k:Nat):(if k=j+n then 0 else dX (dv R) j n X k)=dv (X*256^j+R%256^j) k:=by
 have hj:0<256^j:=fI (by decide)
 have hlo:R%256^j<256^j:=aD _ hj
 by_cases hk:k<j
 ·rw[if_neg (by omega),dX,if_neg (by omega)]
  obtain⟨d,rfl⟩: ∃d,j=k+1+d:=⟨j-k-1,by omega⟩
  have e1:X*256^(k+1+d)+R%256^(k+1+d)=R%256^(k+1+d)+256^(k+1)*(256^d*X):=by
   rw[<-bQ,<-ct,bc X];omega
  have e2 (Y:Nat):dv Y k=Y%256^(k+1)/256^k:=by
   unfold dv;rw[Nat.pow_succ,pK]
  rw[e2,e2,e1,vR,ss _ (Cz 256 (by omega))]
 ·obtain⟨d,rfl⟩: ∃d,k=j+d:=⟨k-j,by omega⟩
  have e:dv (X*256^j+R%256^j) (j+d)=dv X d:=by
   unfold dv;rw[ct,<-eg,fT,bc X,mz _ _ hj,gI hlo,dI]
  rw[e]
  by_cases hd:d=n
  ·subst hd;rw[if_pos rfl,EV hX]
  ·rw[if_neg (by omega)]
   unfold dX
   by_cases hdn:d<n
   ·rw[if_pos (by omega),Nat.add_sub_cancel_left,u7,Int.toNat_natCast]
   ·rw[if_neg (by omega),EV (bj hX (cI (by decide) (by omega))),EV (bj hR (cI (by decide) (by omega)))]
theorem Bb {a:Nat} (h:a<9223372036854775808):lk .i64 (a:Int) 255=((a%256:Nat):Int):=by
 unfold lk;have h1:(BitVec.ofInt 64 (a:Int)&&&BitVec.ofInt 64 255).toNat=a%256:=by
  rw[BitVec.toNat_and,BitVec.ofInt_natCast,jL,show(BitVec.ofInt 64 255).toNat=2^8-1 from rfl,aV (by omega),HJ]
 show IntKind.i64.wrap ((BitVec.ofInt 64 (a:Int)&&&BitVec.ofInt 64 255).toNat:Int)= _;rw[h1,IntWalk.i64_in _ (by omega)]
theorem V0 {a b:Nat} (ha:a<9223372036854775808) (hb:b<9223372036854775808):EZ .i64 (a:Int) (b:Int)=((a|||b:Nat):Int):=by
 unfold EZ;have h1:(BitVec.ofInt 64 (a:Int)|||BitVec.ofInt 64 (b:Int)).toNat=a|||b:=by
  rw[BitVec.toNat_or,BitVec.ofInt_natCast,BitVec.ofInt_natCast,jL,jL,aV (by omega),aV (by omega)]
 show IntKind.i64.wrap ((BitVec.ofInt 64 (a:Int)|||BitVec.ofInt 64 (b:Int)).toNat:Int)= _;have h2:a|||b<2^63:=Nat.or_lt_two_pow (by omega) (by omega)
 rw[h1,IntWalk.i64_in _ (by omega)]
theorem Zw {a b s:Nat} (hs:s<=8) (ha:a<256) (hb:b<2^s):EZ .i64 ((a*2^s:Nat):Int) (b:Int)=((a*2^s+b:Nat):Int):=by
 have h1:2^s<=2^8:=cI (by decide) hs
 have h2:a*2^s<=256*2^8:=jP (jR ha) h1;rw[V0 (by omega) (by omega),bc,<-HL hb]
theorem orL {a b:Nat} (ha:a<256) (hb:b<256):EZ .i64 (b:Int) ((a*256:Nat):Int)=((b+a*256:Nat):Int):=by
 rw[V0 (by omega) (by omega),Nat.or_comm,bc,<-HL (i:=8) hb]
 omega
end Go.Dom
