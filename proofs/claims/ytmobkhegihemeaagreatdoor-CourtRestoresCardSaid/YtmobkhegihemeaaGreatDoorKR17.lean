/-
  Part of the proof, part KR17. Own work.
-/
import Derived.Test.YtmobkhegihemeaaGreatDoorKR16
set_option linter.all false
namespace Go.Dom
theorem Rl (x:Int):IntKind.u8.wrap x=x%256:=IntKind.wrap_u8 x
theorem Ka (x:Int):IntKind.u32.wrap x=x%4294967296:=IntKind.wrap_u32 x
theorem Dk (x:Int):IntKind.u64.wrap x=x%18446744073709551616:=by simp[IntKind.wrap,IntKind.bits,IntKind.signed]
theorem tY (a b:Nat):(a:Int).fdiv (b:Int)=((a/b:Nat):Int):=by
 rw[Int.fdiv_eq_ediv_of_nonneg _ (by omega)];rfl
theorem Ir (a k:Nat):(a:Int).fdiv (2^k)=((a/2^k:Nat):Int):=by
 have:((2:Int)^k)=((2^k:Nat):Int):=by simp
 rw[this,tY]
theorem kD (a:Nat):IntKind.u8.wrap (a:Int)=((UInt8.ofNat a).toNat:Int):=by
 rw[Rl,UInt8.toNat_ofNat'];omega
theorem dr (w a:Nat):BitVec.ofInt w (a:Int)=BitVec.ofNat w a:=BitVec.ofInt_natCast w a
theorem GX (k:IntKind) (hk:k.signed=false) (x:Nat):k.wrap (x:Int)=((x%2^k.bits:Nat):Int):=by
 simp[IntKind.wrap,hk]
theorem Mb (k:IntKind) (hk:k.signed=false) {a b:Nat} (ha:a<2^k.bits) (hb:b<2^k.bits):yU k (a:Int) (b:Int)=((a|||b:Nat):Int):=by
 rw[yU,dr,dr,BitVec.toNat_or,BitVec.toNat_ofNat,BitVec.toNat_ofNat,Nat.mod_eq_of_lt ha,Nat.mod_eq_of_lt hb,GX k hk,Nat.mod_eq_of_lt (Nat.or_lt_two_pow ha hb)]
theorem EW (k:IntKind) (hk:k.signed=false) {a b:Nat} (ha:a<2^k.bits) (hb:b<2^k.bits):gV k (a:Int) (b:Int)=((a&&&b:Nat):Int):=by
 rw[gV,dr,dr,BitVec.toNat_and,BitVec.toNat_ofNat,BitVec.toNat_ofNat,Nat.mod_eq_of_lt ha,Nat.mod_eq_of_lt hb,GX k hk,Nat.mod_eq_of_lt (Nat.and_lt_two_pow _ hb)]
theorem Kx (k:IntKind) (hk:k.signed=false) {a b:Nat} (ha:a<2^k.bits) (hb:b<2^k.bits):wO k (a:Int) (b:Int)=((a^^^b:Nat):Int):=by
 rw[wO,dr,dr,BitVec.toNat_xor,BitVec.toNat_ofNat,BitVec.toNat_ofNat,Nat.mod_eq_of_lt ha,Nat.mod_eq_of_lt hb,GX k hk,Nat.mod_eq_of_lt (Nat.xor_lt_two_pow ha hb)]
theorem xd {x c k:Nat} (h:c<2^k):x*2^k|||c=x*2^k+c:=by
 rw[←Nat.shiftLeft_eq,Nat.shiftLeft_add_eq_or_of_lt h]
theorem DJ (x k:Nat):x&&&(2^k-1)=x%2^k:=Nat.and_two_pow_sub_one_eq_mod x k
theorem nh (l:List PV):chunk 1 l.length l=l:=by
 induction l with
 |nil=>rfl
 |cons x r ih=>simp[chunk,ih]
theorem x6 {hf:Nat→Option aq} {f n ver:Nat} {l:Bytes} {gr:Bool} {el:Option TypeId} {m:Nat} (hm:m=l.length) (h:hf n=some ⟨ver,ay l,gr,el⟩):
  view hf (f+2) (.rs n ver 0 m 1)=some (.sl (l.map u8)):=by
 subst hm;have h1:aI (view hf (f+1)) (ay l)=some (l.map u8):=by
  have:=dx hf f (l.map u8);rw[List.map_map]at this;exact this
 have h2:(ay l).all AV.one=true:=by simp[ay,AV.one,PV.one,u8]
 have h3:chunk 1 l.length (l.map u8)=l.map u8:=by have:=nh (l.map u8);simpa using this
 simp[view,h,fk,h2,eK,h1,h3]
theorem u9 {hf:Nat→Option aq} {f n ver:Nat} {l:Bytes} {gr:Bool} {el:Option TypeId} {m:Nat} (hm:m=l.length) (h:hf n=some ⟨ver,ay l,gr,el⟩):
  aH hf (f+2) (.rs n ver 0 m 1)=[n]:=by
 subst hm;have h1:(ay l).flatMap (aH hf (f+1))=[]:=by
  unfold ay
  induction l with
  |nil=>rfl
  |cons x r ih=>simp_all[aH]
 simp[aH,h,eK,h1]
theorem gN {P:Program} [aV P] {Q:AX→AS→Prop} {nx:Nat} {bf:Option (List Nat)} {nn:Nat} {d:Option Nat} {ops:List eR} {k:Nat} {s:AS} {tr:List (Nat×List Nat×List Nat)} {K:List Fr} {nm:Nat} {f:FuncId} {n ver m:Nat} {l:Bytes} {gr:Bool} {el:Option TypeId} {r:PV}
  (he:aB P f [.sl (l.map u8)] r) (hr:r.flat=true) (hg:ai s.h n=some ⟨ver,ay l,gr,el⟩) (hm:m=l.length) (hK:RW P Q nx bf nn ops (k+1) (s.nW d (.v r) []) (th bf k [n] [] tr) K):
  CR P Q nx bf nn nm (.v (.fn (.func f))) [.rs n ver 0 m 1] d ops k s tr K:=by
 refine ij he ?_ hr ?_
 ·simp[aI,x6 hm hg]
 ·have:[AV.rs n ver 0 m 1].flatMap (aH (ai s.h) 9)=[n]:=by simp[u9 hm hg]
  rw[this];exact hK
theorem vR {l:Bytes} {o:Nat} {x:Int} {c:UInt8} (h:o<l.length) (hx:x=(c.toNat:Int)):(ay l).take o++[.v (.i .u8 x)]++(ay l).drop (o+1)=ay (l.set o c):=by
 subst hx;unfold ay;rw[List.map_set,List.set_eq_take_append_cons_drop];simp[h,u8]
theorem OH (a n:Nat):(a:Int).fdiv (no_index (OfNat.ofNat n))=((a/(OfNat.ofNat n):Nat):Int):=tY a n
theorem Pp (a b:Nat):(a:Int).tdiv (b:Int)=((a/b:Nat):Int):=rfl
theorem Ps (a b:Nat):(a:Int).tmod (b:Int)=((a%b:Nat):Int):=rfl
theorem Po (a n:Nat):(a:Int).tdiv (no_index (OfNat.ofNat n))=((a/(OfNat.ofNat n):Nat):Int):=rfl
theorem Pq (a n:Nat):(a:Int).tmod (no_index (OfNat.ofNat n))=((a%(OfNat.ofNat n):Nat):Int):=rfl
theorem uw (a:Nat):IntKind.u64.wrap (a:Int)=((a%18446744073709551616:Nat):Int):=by rw[Dk];omega
theorem rR (a b:Nat):IntKind.u64.wrap ((a:Int)*(b:Int))=((a*b%18446744073709551616:Nat):Int):=by rw[←Int.natCast_mul,uw]
theorem mn (a n:Nat):IntKind.u64.wrap ((a:Int)*(no_index (OfNat.ofNat n)))=((a*(OfNat.ofNat n)%18446744073709551616:Nat):Int):=rR a n
theorem qy (a n:Nat):IntKind.u64.wrap ((no_index (OfNat.ofNat n))*(a:Int))=(((OfNat.ofNat n)*a%18446744073709551616:Nat):Int):=rR n a
theorem zA (a k:Nat):IntKind.u64.wrap ((a:Int)*2^k)=((a*2^k%18446744073709551616:Nat):Int):=by
 have:=rR a (2^k);simpa using this
theorem vJ (a b:Nat):IntKind.u64.wrap ((a:Int)+(b:Int))=(((a+b)%18446744073709551616:Nat):Int):=by rw[←Int.natCast_add,uw]
theorem py (a n:Nat):IntKind.u64.wrap ((a:Int)+(no_index (OfNat.ofNat n)))=(((a+(OfNat.ofNat n))%18446744073709551616:Nat):Int):=vJ a n
theorem uX (a b:Nat):IntKind.u64.wrap ((a:Int)-(b:Int))=(((a+(18446744073709551616-b%18446744073709551616))%18446744073709551616:Nat):Int):=by rw[Dk];omega
theorem q9 (a n:Nat):IntKind.u64.wrap ((a:Int)-(no_index (OfNat.ofNat n)))=(((a+(18446744073709551616-(OfNat.ofNat n)%18446744073709551616))%18446744073709551616:Nat):Int):=uX a n
theorem qZ (a n:Nat):IntKind.u64.wrap ((no_index (OfNat.ofNat n))-(a:Int))=((((OfNat.ofNat n)+(18446744073709551616-a%18446744073709551616))%18446744073709551616:Nat):Int):=uX n a
theorem Qr (a b:Nat):gV .u64 (a:Int) (b:Int)=(((a%18446744073709551616)&&&(b%18446744073709551616):Nat):Int):=by
 have h:=EW .u64 rfl (a:=a%18446744073709551616) (b:=b%18446744073709551616) (Nat.mod_lt _ (by decide)) (Nat.mod_lt _ (by decide))
 rw[←h];unfold gV;simp only[dr];congr 4<;>(apply BitVec.eq_of_toNat_eq;simp[IntKind.bits])
theorem kQ (a:Nat):gV .u64 (a:Int) 4294967295=((a%4294967296:Nat):Int):=by
 have h:=Qr a 4294967295;have e:(a%18446744073709551616)&&&(4294967295%18446744073709551616)=a%4294967296:=by
  have:=DJ (a%18446744073709551616) 32;rw[show(4294967295%18446744073709551616:Nat)=2^32-1 from rfl,this];omega
 rw[e]at h;exact h
theorem Rn {x:Nat} (h:x<256):IntKind.u8.wrap (x:Int)=(x:Int):=IntWalk.u8_in _ (by omega)
attribute [go_sem] OH Ir Pp Ps Po Pq
def ax (k:IntKind) (l:List Nat):List AV:=l.map fun x:Nat=> .v (.i k (x:Int))
theorem aM (k:IntKind) (l:List Nat):(ax k l).length=l.length:=by simp[ax]
theorem kW (k:IntKind) (n:Nat):(List.replicate n [AV.v (PV.i k 0)]).flatten=ax k (List.replicate n 0):=by
 induction n with
 |zero=>rfl
 |succ n ih=>simp[List.replicate_succ,ax]at ih⊢
theorem cf {k:IntKind} {l:List Nat} {i:Nat} (h:i<l.length):(ax k l).getD i .u= .v (.i k (l.getD i 0:Nat)):=by
 simp[ax,List.getD_eq_getElem?_getD,h]
theorem cK {k:IntKind} {l:List Nat} {o x:Nat} {y:Int} (h:o<l.length) (hy:y=(x:Int)):(ax k l).take o++[.v (.i k y)]++(ax k l).drop (o+1)=ax k (l.set o x):=by
 subst hy;unfold ax;rw[List.map_set,List.set_eq_take_append_cons_drop];simp[h]
theorem ak (k:IntKind) (l:List Nat) (n:Nat):(∀y,y∈ax k l→y.bd n=true)=True:=by
 simp only[eq_iff_iff,iff_true];intro y hy;obtain⟨c,-,rfl⟩:=List.mem_map.1 hy;rfl
theorem xp (f:Nat→Option Nat) (k:IntKind) (l:List Nat):AV.aC.renL f (ax k l)=some (ax k l):=by
 induction l with
 |nil=>rfl
 |cons c l ih=>
  have:AV.aC.renL f (AV.v (.i k c)::ax k l)=some (AV.v (.i k c)::ax k l):=by simp[AV.aC.renL,AV.aC,ih]
  exact this
structure Hid (p:Prop):Prop where
 v:p
end Go.Dom
namespace Go.Dom
open Go.RowKit
section
variable {P:Program} [aV P] {Q:AX→AS→Prop}
theorem cP {nx:Nat} {bf:Option (List Nat)} {n:Nat} {d:Option Nat} {ops:List eR} {k:Nat} {s:AS} {tr:List (Nat×List Nat×List Nat)} {K:List Fr} {nm:Nat} {f:FuncId} {avs:List AV} {pvs:List PV} {r:PV} (he:aB P f pvs r) (hK:RW P Q nx bf n ops (k+1) (s.nW d (.v r) []) (th bf k [] [] tr) K) (ha:iS avs=some pvs:=by exact rfl):
  CR P Q nx bf n nm (.v (.fn (.func f))) avs d ops k s tr K:=cW he ha hK
theorem cV {nx:Nat} {bf:Option (List Nat)} {n:Nat} {d:Option Nat} {ops:List eR} {k:Nat} {s:AS} {tr:List (Nat×List Nat×List Nat)} {K:List Fr} {nm:Nat} {f:FuncId} {avs:List AV} {pvs:List PV} {r:PV} (he:aB P f pvs r) (hK:RW P Q nx bf n ops (k+1) (s.nW d (.v r) []) (th bf k (avs.flatMap (aH (ai s.h) 9)) [] tr) K) (ha:aI (view (ai s.h) 9) avs=some pvs:=by exact rfl) (hr:r.flat=true:=by exact rfl):
  CR P Q nx bf n nm (.v (.fn (.func f))) avs d ops k s tr K:=ij he ha hr hK
theorem bP:(∀(c:Bool) (κ:BK),c=true→BX P Q c κ=BX P Q true κ)∧(∀(c:Bool) (κ:BK),c=false→BX P Q c κ=BX P Q false κ)∧(∀(p:Prop) (κ:BK),p→PX P Q p κ=BX P Q true κ)∧(∀(p:Prop) (κ:BK),¬p→PX P Q p κ=BX P Q false κ):=
 ⟨fun _ _ h=>G8 h,fun _ _ h=>G7 h,fun _ _ h=>Dw h,fun _ _ h=>Dv h⟩
theorem pX {p:Prop} {κ:BK} (h1:p→BX P Q true κ) (h2: ¬p→BX P Q false κ):PX P Q p κ:=PX.mk h1 h2
theorem bX {c:Bool} {κ:BK} (h1:c=true→BX P Q true κ) (h2:c=false→BX P Q false κ):BX P Q c κ:=BX.mk h1 h2
end
theorem bW:(∀n:Int,-9223372036854775808≤n∧n≤9223372036854775807→IntKind.i64.wrap n=n)∧(∀n:Int,0≤n∧n≤18446744073709551615→IntKind.u64.wrap n=n):=⟨IntWalk.i64_in,IntWalk.u64_in⟩
theorem sB {p q:Prop} (h:q) (e:p=q:=by simp(disch:=first|assumption|omega) only[bP,bW]<;>rfl):p:=e▸h
theorem oD {p:Prop} (h:p:=by first|omega|decide):p:=h
theorem lE {t t':List (Nat×AV)} {h h':List (Nat×aq)} {n n':Nat} (hn:n≤n':=by first|decide|omega) (ht:bL t' n t:=by simp[bL,bK,aD,ai,AV.bd,AV.bd.bdL,u8,af,ah,ak]) (hh:bK h' n h:=by simp[bL,bK,aD,ai,AV.bd,AV.bd.bdL,u8,af,ah,ak]):(AS.mk t h n).Le ⟨t',h',n'⟩:=AS.Le.of hn ht hh
end Go.Dom
namespace Go.Dom
def num:Bytes→Nat
 |[]=>0
 |x::r=>x.toNat*256^r.length+num r
def be:Nat→Nat→Bytes
 |0,_=>[]
 |k+1,n=>UInt8.ofNat (n/256^k)::be k n
def dT:Bytes→Bytes
 |[]=>[]
 |x::r=>if x=0 then dT r else x::r
def aK (n:Nat):Bytes:=dT (be (n.log2/8+1) n)
def aa (a:Bytes):Bool:=decide (a.length≤128)&&(a.length==0||a.headD 0 !=0)
theorem cd (k n:Nat):(be k n).length=k:=by induction k<;>simp_all[be]
theorem jw (k:Nat):0<256^k:=Nat.pow_pos (by decide)
theorem bR (a:Bytes):num a<256^a.length:=by
 induction a with
 |nil=>decide
 |cons x r ih=>
  simp only[num,List.length_cons,Nat.pow_succ];have:=x.toNat_lt;have h2:x.toNat*256^r.length≤255*256^r.length:=Nat.mul_le_mul_right _ (by omega)
  omega
theorem qA (a b:Bytes):num (a++b)=num a*256^b.length+num b:=by
 induction a with
 |nil=>simp[num]
 |cons x r ih=>simp only[List.cons_append,num,ih,List.length_append,Nat.pow_add,Nat.add_mul,Nat.mul_assoc];omega
theorem FH (a:Bytes) (x:UInt8):num (a++[x])=num a*256+x.toNat:=by simp[qA,num]
theorem FG (k n:Nat):num (be k n)=n%256^k:=by
 induction k with
 |zero=>simp[be,num,Nat.mod_one]
 |succ k ih=>
  simp only[be,num,cd,ih,UInt8.toNat_ofNat'];have h:=Nat.mod_mul (x:=n) (a:=256^k) (b:=256);rw[show(256:Nat)^(k+1)=256^k*256 from Nat.pow_succ ..,h,Nat.mul_comm (256^k)]
  show n/256^k%256*256^k+n%256^k= _;omega
theorem DY (a:Bytes):be a.length (num a)=a:=by
 induction a with
 |nil=>rfl
 |cons x r ih=>
  have h:num (x::r)=x.toNat*256^r.length+num r:=rfl;have h1:=bR r;have h2:num (x::r)/256^r.length=x.toNat:=by
   rw[h,Nat.mul_comm,Nat.mul_add_div (jw _),Nat.div_eq_of_lt h1];omega
  have h3: ∀k m m',m%256^k=m'%256^k→be k m=be k m':=by
   intro k
   induction k with
   |zero=>intros;rfl
   |succ k ih=>
    intro m m' hm;have e1:m/256^k%256=m'/256^k%256:=by
     rw[Nat.pow_succ]at hm;have a1:=Nat.mod_mul (x:=m) (a:=256^k) (b:=256);have a2:=Nat.mod_mul (x:=m') (a:=256^k) (b:=256);have b1:m%(256^k*256)/256^k=m/256^k%256:=by rw[Nat.mod_mul_right_div_self]
     have b2:m'%(256^k*256)/256^k=m'/256^k%256:=by rw[Nat.mod_mul_right_div_self]
     rw[←b1,←b2,hm]
    have e2:m%256^k=m'%256^k:=by
     have a1:m%256^(k+1)%256^k=m%256^k:=Nat.mod_mod_of_dvd _ (Nat.pow_dvd_pow 256 (Nat.le_succ k));have a2:m'%256^(k+1)%256^k=m'%256^k:=Nat.mod_mod_of_dvd _ (Nat.pow_dvd_pow 256 (Nat.le_succ k));rw[←a1,←a2,hm]
    simp only[be,ih m m' e2];congr 1;apply UInt8.toNat_inj.1;simpa using e1
  simp only[List.length_cons,be,h2];rw[show UInt8.ofNat x.toNat=x by simp,h3 r.length (num (x::r)) (num r) (by rw[h,Nat.mul_add_mod_self_right]),ih]
theorem rh (a:Bytes): ∃k,a=List.replicate k 0++dT a∧(dT a=[]∨(dT a).headD 0≠0):=by
 induction a with
 |nil=>exact⟨0,rfl, .inl rfl⟩
 |cons x r ih=>
  simp only[dT];split
  ·rename_i h;subst h;obtain⟨k,e,h⟩:=ih;exact⟨k+1,by simp[List.replicate_succ,←e],h⟩
  ·rename_i h;exact⟨0,rfl, .inr h⟩
theorem CC (k:Nat) (a:Bytes):num (List.replicate k 0++a)=num a:=by
 induction k with
 |zero=>rfl
 |succ k ih=>simp[List.replicate_succ,num,ih]
theorem wZ (a:Bytes):num (dT a)=num a:=by
 obtain⟨k,e,-⟩:=rh a
 conv=>rhs;rw[e,CC]
def Canon (a:Bytes):Prop:=a=[]∨a.headD 0≠0
theorem ri (a:Bytes):Canon (dT a):=by obtain⟨k,-,h⟩:=rh a;exact h
theorem iY {a:Bytes} (h:Canon a) (hne:a≠[]):256^(a.length-1)≤num a:=by
 cases a with
 |nil=>exact absurd rfl hne
 |cons x r=>
  rcases h with h|h
  ·cases h
  ·have hx:0<x.toNat:=by
    rcases Nat.eq_zero_or_pos x.toNat with e|e
    ·exact absurd (UInt8.toNat_inj.1 e:x=0) h
    ·exact e
   simp only[num,List.length_cons,Nat.add_sub_cancel];have:=Nat.mul_le_mul_right (256^r.length) hx;omega
theorem nf {a b:Bytes} (ha:Canon a) (hb:Canon b) (h:num a=num b):a=b:=by
 have key: ∀{a b:Bytes},Canon a→Canon b→num a=num b→a.length≤b.length:=by
  intro a b ha hb h
  by_cases hne:a=[]
  ·subst hne;simp
  ·have h1:=iY ha hne;have h2:=bR b;have h3:256^(a.length-1)<256^b.length:=by omega
   have:=(Nat.pow_lt_pow_iff_right (by decide:1<256)).1 h3
   omega
 have hl:a.length=b.length:=Nat.le_antisymm (key ha hb h) (key hb ha h.symm);have h1:=DY a;rw[h,hl,DY b]at h1;exact h1.symm
theorem IW (n:Nat):n<256^(n.log2/8+1):=by
 have h1:n<2^(n.log2+1):=Nat.lt_log2_self;have h2:(256:Nat)^(n.log2/8+1)=2^(8*(n.log2/8+1)):=by rw[Nat.pow_mul]
 rw[h2];exact Nat.lt_of_lt_of_le h1 (Nat.pow_le_pow_right (by decide) (by omega))
theorem aG (n:Nat):num (aK n)=n:=by
 rw[aK,wZ,FG];exact Nat.mod_eq_of_lt (IW n)
theorem kd (n:Nat):Canon (aK n):=ri _
theorem HW {a:Bytes} (h:Canon a):aK (num a)=a:=nf (kd _) h (aG _)
theorem GO (a:Bytes):dT a=aK (num a):=nf (ri _) (kd _) (by rw[wZ,aG])
theorem jD {k n:Nat} (h:n<256^k):dT (be k n)=aK n:=by rw[GO,FG,Nat.mod_eq_of_lt h]
theorem Ea:aK 0=[]:=by decide
theorem kf {n k:Nat}:(aK n).length≤k↔n<256^k:=by
 constructor
 ·intro h;have:=bR (aK n);rw[aG]at this;exact Nat.lt_of_lt_of_le this (Nat.pow_le_pow_right (by decide) h)
 ·intro h
  by_cases hne:aK n=[]
  ·simp[hne]
  ·have h1:=iY (kd n) hne;rw[aG]at h1;have h3:256^((aK n).length-1)<256^k:=by omega
   have:=(Nat.pow_lt_pow_iff_right (by decide:1<256)).1 h3
   omega
theorem Af {m n:Nat}:aK m=aK n↔m=n:=⟨fun h=>by rw[←aG m,h,aG],fun h=>by rw[h]⟩
theorem eV {n:Nat}:aK n=[]↔n=0:=by rw[←Ea];exact Af
theorem lr (a:Bytes):aa a=true↔a.length≤128∧Canon a:=by
 unfold aa Canon
 cases a with
 |nil=>simp
 |cons x r=>simp
theorem cl {a:Bytes} (h:aa a=true):Canon a:=((lr a).1 h).2
theorem dZ {a:Bytes} (h:aa a=true):aK (num a)=a:=HW (cl h)
theorem dE {a:Bytes} (h:aa a=true):a.length≤128:=((lr a).1 h).1
theorem uB {a:Bytes} (h:aa a=true):num a<256^128:=Nat.lt_of_lt_of_le (bR a) (Nat.pow_le_pow_right (by decide) (dE h))
theorem kA {n:Nat} (h:n<256^128):aa (aK n)=true:=(lr _).2 ⟨kf.2 h,kd n⟩
theorem qC {a:Bytes} (ha:aa a=true):num a=0↔a=[]:=by
 constructor
 ·intro h;exact nf (cl ha) (.inl rfl) h
 ·intro h;subst h;rfl
theorem CB (a:Bytes) {i:Nat} (h:i<a.length):(a.getD (a.length-1-i) 0).toNat=num a/256^i%256:=by
 have e:a=a.take (a.length-1-i)++(a.getD (a.length-1-i) 0::a.drop (a.length-i)):=by
  have h2:a.length-1-i<a.length:=by omega
  conv=>lhs;rw[←List.take_append_drop (a.length-1-i) a,List.drop_eq_getElem_cons h2]
  rw[show a.length-1-i+1=a.length-i by omega]
  simp[List.getD_eq_getElem?_getD,h2]
 have hl:(a.drop (a.length-i)).length=i:=by simp;omega
 have hn:=qA (a.take (a.length-1-i)) (a.getD (a.length-1-i) 0::a.drop (a.length-i));rw[←e]at hn;simp only[num,List.length_cons,hl]at hn;have hlt:=bR (a.drop (a.length-i));rw[hl]at hlt;generalize (a.getD (a.length-1-i) 0)=c at hn⊢;have hc:=c.toNat_lt;have:num a=(num (a.take (a.length-1-i))*256+c.toNat)*256^i+num (a.drop (a.length-i)):=by
  rw[hn,Nat.pow_succ,Nat.add_mul,Nat.mul_assoc,Nat.mul_comm 256];omega
 rw[this,Nat.mul_comm _ (256^i),Nat.mul_add_div (jw _),Nat.div_eq_of_lt hlt];omega
theorem qB (a:Bytes) {i:Nat} (h:a.length≤i):num a/256^i=0:=Nat.div_eq_of_lt (Nat.lt_of_lt_of_le (bR a) (Nat.pow_le_pow_right (by decide) h))
theorem om (x y:UInt8) {r s:Bytes} (hl:r.length=s.length):num (x::r)<num (y::s)↔x.toNat<y.toNat∨(x=y∧num r<num s):=by
 simp only[num,hl];have h1:=bR r;have h2:=bR s;rw[hl]at h1;generalize 256^s.length=p at h1 h2⊢;rcases Nat.lt_trichotomy x.toNat y.toNat with h|h|h
 ·have:=Nat.mul_le_mul_right p (show x.toNat+1≤y.toNat from h)
  rw[Nat.add_mul]at this;simp only[h,true_or,iff_true];omega
 ·have:x=y:=UInt8.toNat_inj.1 h;subst this;simp
 ·have:=Nat.mul_le_mul_right p (show y.toNat+1≤x.toNat from h)
  rw[Nat.add_mul]at this;have hne:x≠y:=fun e=>by subst e;omega
  simp only[hne,false_and,or_false];omega
theorem gG {a b:Bytes} (hb:Canon b) (h:a.length<b.length):num a<num b:=by
 have h1:=bR a;have h2:=iY hb (by intro e;subst e;simp at h)
 exact Nat.lt_of_lt_of_le h1 (Nat.le_trans (Nat.pow_le_pow_right (by decide) (by omega)) h2)
theorem JR {α:Type} (l m:List α) (x y:α):(l++x::m).set l.length y=l++y::m:=by simp
theorem zT (k:Nat):(List.replicate (k+1) (0:UInt8))=List.replicate k 0++[0]:=by rw[List.replicate_succ']
theorem gT {n i:Nat} (hi:i<n) (c:UInt8) (b:Bytes):(List.replicate (n-i) (0:UInt8)++b).set (n-1-i) c=List.replicate (n-(i+1)) 0++(c::b):=by
 obtain⟨k,rfl⟩: ∃k,n=k+i+1:=⟨n-i-1,by omega⟩
 rw[show k+i+1-i=k+1 by omega,show k+i+1-1-i=k by omega,show k+i+1-(i+1)=k by omega,zT]
 have:=JR (List.replicate k (0:UInt8)) b 0 c;simpa using this
end Go.Dom
namespace Go.Dom
open Go
def dv (x k:Nat):Nat:=x/256^k%256
def oP (x:Int) (k:Nat):Int:=x/256^k%256
theorem oQ (x k:Nat):oP x k=(dv x k:Nat):=by
 unfold oP dv;rw[Int.natCast_emod,Int.natCast_ediv,Int.natCast_pow];rfl
theorem Au (x:Int) (k:Nat):0≤oP x k∧oP x k<256:=⟨Int.emod_nonneg _ (by decide),Int.emod_lt_of_pos _ (by decide)⟩
theorem CM (i:Nat):(0:Int)<256^i:=Int.pow_pos (by decide)
def cy (U V a:Int) (i:Nat):Int:=(U%256^i+a*(V%256^i))/256^i
theorem Ar (U V a:Int):cy U V a 0=0:=by simp[cy,Int.emod_one]
theorem yJ (U V a:Int) (i:Nat):(U+a*V)/256^i=cy U V a i+(U/256^i+a*(V/256^i)):=by
 have hB:=CM i;unfold cy;have e1:=Int.emod_add_mul_ediv U (256^i);have e2:=Int.emod_add_mul_ediv V (256^i);have e:U+a*V=(U%256^i+a*(V%256^i))+256^i*(U/256^i+a*(V/256^i)):=by
  rw[Int.mul_add,Int.mul_left_comm (256^i) a];have:a*V=a*(V%256^i)+a*(256^i*(V/256^i)):=by rw[←Int.mul_add,e2]
  omega
 rw[e,Int.add_mul_ediv_left _ _ (Int.ne_of_gt hB)]
theorem H8 (U V a:Int) (i:Nat):cy U V a (i+1)=(oP U i+a*oP V i+cy U V a i)/256:=by
 have hB:=CM i;have h (W:Int):W%256^(i+1)=W%256^i+256^i*oP W i:=by
  unfold oP;refine((Int.ediv_emod_unique (q:=W/256^i/256) (CM (i+1))).2 ⟨?_,?_,?_⟩).2
  ·have e1:=Int.emod_add_mul_ediv W (256^i);have e2:=Int.emod_add_mul_ediv (W/256^i) 256;have:256^i*(W/256^i)=256^i*(W/256^i%256)+256^i*(256*(W/256^i/256)):=by rw[←Int.mul_add,e2]
   rw[Int.pow_succ,Int.mul_assoc];omega
  ·have:=Int.emod_nonneg W (Int.ne_of_gt hB);have:=Int.mul_nonneg (Int.le_of_lt hB) (Int.emod_nonneg (W/256^i) (by decide:(256:Int)≠0))
   omega
  ·have h1:=Int.emod_lt_of_pos W hB;have h2:=Int.emod_lt_of_pos (W/256^i) (by decide:(0:Int)<256)
   have h3:256^i*(W/256^i%256)≤256^i*255:=Int.mul_le_mul_of_nonneg_left (by omega) (Int.le_of_lt hB)
   rw[Int.pow_succ];omega
 have e:U%256^(i+1)+a*(V%256^(i+1))=(U%256^i+a*(V%256^i))+256^i*(oP U i+a*oP V i):=by
  rw[h U,h V,Int.mul_add,Int.mul_add,Int.mul_left_comm a];omega
 show(_+ _)/ _= _;rw[e,Int.pow_succ,←Int.ediv_ediv_of_nonneg (Int.le_of_lt hB),Int.add_mul_ediv_left _ _ (Int.ne_of_gt hB)];congr 1;unfold cy;omega
theorem Aq (U V a:Int) (i:Nat):oP U i+a*oP V i+cy U V a i=256*cy U V a (i+1)+oP (U+a*V) i:=by
 have h1:=H8 U V a i;have h2:=yJ U V a i;have e:oP (U+a*V) i=(oP U i+a*oP V i+cy U V a i)%256:=by
  unfold oP;rw[h2];have e1:=Int.emod_add_mul_ediv (U/256^i) 256;have e2:=Int.emod_add_mul_ediv (V/256^i) 256;have e3:a*(V/256^i)=a*(V/256^i%256)+256*(a*(V/256^i/256)):=by
   rw[Int.mul_left_comm,←Int.mul_add,e2]
  have:cy U V a i+(U/256^i+a*(V/256^i))=(U/256^i%256+a*(V/256^i%256)+cy U V a i)+256*(U/256^i/256+a*(V/256^i/256)):=by omega
  rw[this,Int.add_mul_emod_self_left]
 rw[h1,e];omega
theorem ET {R D n:Nat} (hn:1≤n) (h1:128*256^(n-1)≤D) (h2:D<256^n) (hR:R<256*D):
  128≤dv D (n-1)∧R/D≤(dv R n*256+dv R (n-1))/dv D (n-1)∧R/D≤255:=by
 obtain⟨k,rfl⟩: ∃k,n=k+1:=⟨n-1,by omega⟩
 rw[Nat.add_sub_cancel]at h1⊢;have hB:0<256^k:=Nat.pow_pos (by decide)
 rw[Nat.pow_succ]at h2;have hD0:0<D:=by omega
 have v1:D/256^k<256:=by rw[Nat.div_lt_iff_lt_mul hB];omega
 have v2:128≤D/256^k:=(Nat.le_div_iff_mul_le hB).2 h1;have v3:dv D k=D/256^k:=Nat.mod_eq_of_lt v1;have u1:R/256^k<65536:=by rw[Nat.div_lt_iff_lt_mul hB];omega
 have u3:dv R (k+1)*256+dv R k=R/256^k:=by
  unfold dv;rw[Nat.pow_succ,←Nat.div_div_eq_div_mul];clear v1 v2 v3 h1 h2;generalize R/256^k=y at*;omega
 rw[v3,u3];have hRD:R/D<256:=by
  rw[Nat.div_lt_iff_lt_mul hD0];exact hR
 refine⟨v2,?_,by omega⟩
 rw[Nat.le_div_iff_mul_le (by omega),Nat.le_div_iff_mul_le hB,Nat.mul_assoc]
 exact Nat.le_trans (Nat.mul_le_mul_left _ (Nat.div_mul_le_self _ _)) (Nat.div_mul_le_self _ _)
theorem wq (x i s:Nat) (hs:s≤7):dv (x*2^s) (i+1)=dv x (i+1)*2^s%256+dv x i/2^(8-s):=by
 unfold dv;have hB:0<256^i:=Nat.pow_pos (by decide)
 obtain⟨y,hy⟩: ∃y,y=x/256^i:=⟨_,rfl⟩;obtain⟨e,he,hlt⟩: ∃e,x*2^s/256^i=y*2^s+e∧e<2^s:=by
  refine⟨x%256^i*2^s/256^i,?_,?_⟩
  ·have:x*2^s=x%256^i*2^s+256^i*(y*2^s):=by
    rw[←Nat.mul_assoc,←Nat.add_mul,hy,Nat.mod_add_div]
   rw[this,Nat.add_mul_div_left _ _ hB,Nat.add_comm]
  ·rw[Nat.div_lt_iff_lt_mul hB,Nat.mul_comm];exact Nat.mul_lt_mul_of_pos_left (Nat.mod_lt _ hB) (Nat.pow_pos (by decide))
 rw[Nat.pow_succ,←Nat.div_div_eq_div_mul,←Nat.div_div_eq_div_mul,he,←hy];clear hy he hB;obtain rfl|rfl|rfl|rfl|rfl|rfl|rfl|rfl:s=0∨s=1∨s=2∨s=3∨s=4∨s=5∨s=6∨s=7:=by omega
 all_goals simp only[Nat.pow_zero,Nat.reducePow,Nat.reduceSub]at hlt⊢;omega
theorem sD (x s:Nat):dv (x*2^s) 0=dv x 0*2^s%256:=by
 unfold dv;rw[Nat.pow_zero,Nat.div_one,Nat.div_one,Nat.mod_mul_mod]
theorem yO (x i s:Nat) (hs:s≤7):(dv x i+dv x (i+1)*256)/2^s%256=dv (x/2^s) i:=by
 unfold dv;rw[Nat.div_div_eq_div_mul,Nat.mul_comm (2^s),←Nat.div_div_eq_div_mul,Nat.pow_succ,←Nat.div_div_eq_div_mul];generalize x/256^i=y;obtain rfl|rfl|rfl|rfl|rfl|rfl|rfl|rfl:s=0∨s=1∨s=2∨s=3∨s=4∨s=5∨s=6∨s=7:=by omega
 all_goals simp only[Nat.pow_zero,Nat.reducePow];omega
theorem jF (x k:Nat):dv x k<256:=Nat.mod_lt _ (by decide)
theorem yN {x k:Nat} (h:x<256^k):dv x k=0:=by unfold dv;rw[Nat.div_eq_of_lt h]
def dl (N:Nat) (f:Nat→Nat):List Nat:=(List.range N).map f
theorem gS (N:Nat) (f:Nat→Nat):(dl N f).length=N:=by simp[dl]
theorem nk {N:Nat} {f:Nat→Nat} {k:Nat} (h:k<N):(dl N f).getD k 0=f k:=by simp[dl,List.getD_eq_getElem?_getD,h]
theorem pN {N:Nat} {f g:Nat→Nat} (h: ∀k,k<N→f k=g k):dl N f=dl N g:=List.map_congr_left fun k hk=>h k (List.mem_range.1 hk)
theorem tT {N:Nat} {f g:Nat→Nat} {p v:Nat} (hv:p<N→g p=v) (h: ∀k,k<N→k≠p→g k=f k):(dl N f).set p v=dl N g:=by
 refine List.ext_getElem (by simp[dl]) fun k h1 h2=> ?_
 have hk:k<N:=by simpa[dl]using h2
 rw[List.getElem_set]
 by_cases hp:p=k
 ·subst hp;simp[dl,hv hk]
 ·rw[if_neg hp];simp[dl,h k hk (fun e=>hp e.symm)]
def dX (f:Nat→Nat) (j i:Nat) (X:Int) (k:Nat):Nat:=if j≤k∧k<j+i then(oP X (k-j)).toNat else f k
theorem As (f:Nat→Nat) (j:Nat) (X:Int):dX f j 0 X=f:=by funext k;unfold dX;rw[if_neg (by omega)]
theorem Es {N:Nat} (f:Nat→Nat) (j i:Nat) (X:Int) {v:Nat} (hv:(v:Int)=oP X i):(dl N (dX f j i X)).set (i+j) v=dl N (dX f j (i+1) X):=by
 refine tT (fun _=> ?_) fun k _ hk=> ?_
 ·unfold dX;rw[if_pos (by omega),show i+j-j=i by omega,←hv,Int.toNat_natCast]
 ·unfold dX
  by_cases h:j≤k∧k<j+i
  ·rw[if_pos h,if_pos (by omega)]
  ·rw[if_neg h,if_neg (by omega)]
theorem Kp (f:Nat→Nat) (j i:Nat) (X:Int):dX f j i X (i+j)=f (i+j):=by unfold dX;rw[if_neg (by omega)]
theorem OE (f:Nat→Nat) {j i n:Nat} (X:Int) (h:i<n):((dX f j n X (i+j):Nat):Int)=oP X i:=by
 unfold dX;rw[if_pos (by omega),show i+j-j=i by omega]
 have:=(Au X i).1;omega
theorem L1 (f:Nat→Nat) (j n:Nat) (X:Int):dX f j n X (j+n)=f (j+n):=by unfold dX;rw[if_neg (by omega)]
theorem Ia {R j n X:Nat} (hR:R<256^(j+n+1)) (hX:X<256^n) (k:Nat):(if k=j+n then 0 else dX (dv R) j n X k)=dv (X*256^j+R%256^j) k:=by
 have hj:0<256^j:=Nat.pow_pos (by decide)
 have hlo:R%256^j<256^j:=Nat.mod_lt _ hj
 by_cases hk:k<j
 ·rw[if_neg (by omega),dX,if_neg (by omega)]
  obtain⟨d,rfl⟩: ∃d,j=k+1+d:=⟨j-k-1,by omega⟩
  have e1:X*256^(k+1+d)+R%256^(k+1+d)=R%256^(k+1+d)+256^(k+1)*(256^d*X):=by
   rw[←Nat.mul_assoc,←Nat.pow_add,Nat.mul_comm X];omega
  have e2 (Y:Nat):dv Y k=Y%256^(k+1)/256^k:=by
   unfold dv;rw[Nat.pow_succ,Nat.mod_mul_right_div_self]
  rw[e2,e2,e1,Nat.add_mul_mod_self_left,Nat.mod_mod_of_dvd _ (Nat.pow_dvd_pow 256 (by omega))]
 ·obtain⟨d,rfl⟩: ∃d,k=j+d:=⟨k-j,by omega⟩
  have e:dv (X*256^j+R%256^j) (j+d)=dv X d:=by
   unfold dv;rw[Nat.pow_add,←Nat.div_div_eq_div_mul,Nat.add_comm,Nat.mul_comm X,Nat.add_mul_div_left _ _ hj,Nat.div_eq_of_lt hlo,Nat.zero_add]
  rw[e]
  by_cases hd:d=n
  ·subst hd;rw[if_pos rfl,yN hX]
  ·rw[if_neg (by omega)]
   unfold dX
   by_cases hdn:d<n
   ·rw[if_pos (by omega),Nat.add_sub_cancel_left,oQ,Int.toNat_natCast]
   ·rw[if_neg (by omega),yN (Nat.lt_of_lt_of_le hX (Nat.pow_le_pow_right (by decide) (by omega))),yN (Nat.lt_of_lt_of_le hR (Nat.pow_le_pow_right (by decide) (by omega)))]
theorem ud {a:Nat} (h:a<9223372036854775808):gV .i64 (a:Int) 255=((a%256:Nat):Int):=by
 unfold gV;have h1:(BitVec.ofInt 64 (a:Int)&&&BitVec.ofInt 64 255).toNat=a%256:=by
  rw[BitVec.toNat_and,BitVec.ofInt_natCast,BitVec.toNat_ofNat,show(BitVec.ofInt 64 255).toNat=2^8-1 from rfl,Nat.mod_eq_of_lt (by omega),Nat.and_two_pow_sub_one_eq_mod]
 show IntKind.i64.wrap ((BitVec.ofInt 64 (a:Int)&&&BitVec.ofInt 64 255).toNat:Int)= _;rw[h1,IntWalk.i64_in _ (by omega)]
theorem OM {a b:Nat} (ha:a<9223372036854775808) (hb:b<9223372036854775808):yU .i64 (a:Int) (b:Int)=((a|||b:Nat):Int):=by
 unfold yU;have h1:(BitVec.ofInt 64 (a:Int)|||BitVec.ofInt 64 (b:Int)).toNat=a|||b:=by
  rw[BitVec.toNat_or,BitVec.ofInt_natCast,BitVec.ofInt_natCast,BitVec.toNat_ofNat,BitVec.toNat_ofNat,Nat.mod_eq_of_lt (by omega),Nat.mod_eq_of_lt (by omega)]
 show IntKind.i64.wrap ((BitVec.ofInt 64 (a:Int)|||BitVec.ofInt 64 (b:Int)).toNat:Int)= _;have h2:a|||b<2^63:=Nat.or_lt_two_pow (by omega) (by omega)
 rw[h1,IntWalk.i64_in _ (by omega)]
theorem RI {a b s:Nat} (hs:s≤8) (ha:a<256) (hb:b<2^s):yU .i64 ((a*2^s:Nat):Int) (b:Int)=((a*2^s+b:Nat):Int):=by
 have h1:2^s≤2^8:=Nat.pow_le_pow_right (by decide) hs
 have h2:a*2^s≤256*2^8:=Nat.mul_le_mul (Nat.le_of_lt ha) h1;rw[OM (by omega) (by omega),Nat.mul_comm,←Nat.two_pow_add_eq_or_of_lt hb]
theorem SG {a b:Nat} (ha:a<256) (hb:b<256):yU .i64 (b:Int) ((a*256:Nat):Int)=((b+a*256:Nat):Int):=by
 rw[OM (by omega) (by omega),Nat.or_comm,Nat.mul_comm,←Nat.two_pow_add_eq_or_of_lt (i:=8) hb]
 omega
end Go.Dom
