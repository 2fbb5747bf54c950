/- Part of the proof. -/
import Derived.Test.YtnhhajlcpjgkjaaGreatDoorUC16
set_option linter.all false
namespace Go.Dom
variable {a b f k n o ver x:Nat} {el:Option TypeId}
theorem VU (x:Int):IntKind.u8.wrap x=x%256:=qC x
theorem Kr (x:Int):IntKind.u32.wrap x=x%4294967296:=IntKind.wrap_u32 x
theorem zZ (x:Int):IntKind.u64.wrap x=x%18446744073709551616:=by simp[IntKind.wrap,IntKind.bits,IntKind.signed]
theorem BF (a b:Nat):(a:Int).fdiv (b:Int)=((a/b:Nat):Int):=by
 rw[IF _ (by omega)];rfl
theorem PI (a k:Nat):(a:Int).fdiv (2^k)=((a/2^k:Nat):Int):=by
 have:((2:Int)^k)=((2^k:Nat):Int):=by simp
 rw[this,BF]
theorem kA (a:Nat):IntKind.u8.wrap (a:Int)=((UInt8.ofNat a).toNat:Int):=by
 rw[VU,ig];omega
theorem fY (w a:Nat):BitVec.ofInt w (a:Int)=BitVec.ofNat w a:=BitVec.ofInt_natCast w a
theorem N9 (k:IntKind) (hk:k.signed=false) (x:Nat):k.wrap (x:Int)=((x%2^k.bits:Nat):Int):=by
 simp[IntKind.wrap,hk]
theorem TQ (k:IntKind) (hk:k.signed=false) (ha:a<2^k.bits) (hb:b<2^k.bits):FW k (a:Int) (b:Int)=((a|||b:Nat):Int):=by
 rw[FW,fY,fY,BitVec.toNat_or,kj,kj,bw ha,bw hb,N9 k hk,bw (Nat.or_lt_two_pow ha hb)]
theorem Md (k:IntKind) (hk:k.signed=false) (ha:a<2^k.bits) (hb:b<2^k.bits):me k (a:Int) (b:Int)=((a&&&b:Nat):Int):=by
 rw[me,fY,fY,BitVec.toNat_and,kj,kj,bw ha,bw hb,N9 k hk,bw (Nat.and_lt_two_pow _ hb)]
theorem RO (k:IntKind) (hk:k.signed=false) (ha:a<2^k.bits) (hb:b<2^k.bits):Ec k (a:Int) (b:Int)=((a^^^b:Nat):Int):=by
 rw[Ec,fY,fY,BitVec.toNat_xor,kj,kj,bw ha,bw hb,N9 k hk,bw (Nat.xor_lt_two_pow ha hb)]
theorem Er {c:Nat} (h:c<2^k):x*2^k|||c=x*2^k+c:=by
 rw[<-Nat.shiftLeft_eq,Nat.shiftLeft_add_eq_or_of_lt h]
theorem KP (x k:Nat):x&&&(2^k-1)=x%2^k:=IC x k
theorem Bv (l:List PV):chunk 1 l.length l=l:=by
 induction l with
 |nil=>rfl
 |cons x r ih=>simp[chunk,ih]
theorem Fe {hf:Nat->Option aH} {l:Bytes} {gr:Bool} {m:Nat} (hm:m=l.length) (h:hf n=some ⟨ver,aJ l,gr,el⟩):
  view hf (f+2) (.rs n ver 0 m 1)=some (.sl (l.map u8)):=by
 subst hm;have h1:aW (view hf (f+1)) (aJ l)=some (l.map u8):=by
  have:=ie hf f (l.map u8);rw[iF]at this;exact this
 have h2:(aJ l).all AV.one=true:=by simp[aJ,AV.one,PV.one,u8]
 have h3:chunk 1 l.length (l.map u8)=l.map u8:=by have:=Bv (l.map u8);simpa using this
 simp[view,h,lY,h2,iV,h1,h3]
theorem CA {hf:Nat->Option aH} {l:Bytes} {gr:Bool} {m:Nat} (hm:m=l.length) (h:hf n=some ⟨ver,aJ l,gr,el⟩):
  bC hf (f+2) (.rs n ver 0 m 1)=[n]:=by
 subst hm;have h1:(aJ l).flatMap (bC hf (f+1))=[]:=by
  unfold aJ
  induction l with
  |nil=>rfl
  |cons x r ih=>simp_all[bC]
 simp[bC,h,iV,h1]
theorem gZ {P:Program} [cE P] {Q:AX->AS->Prop} {nx:Nat} {bf:Option (List Nat)} {nn:Nat} {d:Option Nat} {ops:List jE} {s:AS} {tr:List (Nat×List Nat×List Nat)} {K:List Fr} {nm:Nat} {f:FuncId} {n ver m:Nat} {l:Bytes} {gr:Bool} {r:PV}
  (he:p9 P f [.sl (l.map u8)] r) (hr:r.flat=true) (hg:aB s.h n=some ⟨ver,aJ l,gr,el⟩) (hm:m=l.length) (hK:RW P Q nx bf nn ops (k+1) (s.rP d (.v r) []) (wA bf k [n] [] tr) K):
  CR P Q nx bf nn nm (.v (.fn (.func f))) [.rs n ver 0 m 1] d ops k s tr K:=by
 refine e7 he ?_ hr ?_
 ·simp[aW,Fe hm hg]
 ·have:[AV.rs n ver 0 m 1].flatMap (bC (aB s.h) 9)=[n]:=by simp[CA hm hg]
  rw[this];exact hK
theorem ss {l:Bytes} {x:Int} {c:UInt8} (h:o<l.length) (hx:x=(c.toNat:Int)):(aJ l).take o++[.v (.i .u8 x)]++(aJ l).drop (o+1)=aJ (l.set o c):=by
 subst hx;unfold aJ;rw[wY,wG];simp[h,u8]
theorem W0 (a n:Nat):(a:Int).fdiv (no_index (OfNat.ofNat n))=((a/(OfNat.ofNat n):Nat):Int):=BF a n
theorem XU (a b:Nat):(a:Int).tdiv (b:Int)=((a/b:Nat):Int):=rfl
theorem XX (a b:Nat):(a:Int).tmod (b:Int)=((a%b:Nat):Int):=rfl
theorem XT (a n:Nat):(a:Int).tdiv (no_index (OfNat.ofNat n))=((a/(OfNat.ofNat n):Nat):Int):=rfl
theorem XV (a n:Nat):(a:Int).tmod (no_index (OfNat.ofNat n))=((a%(OfNat.ofNat n):Nat):Int):=rfl
theorem uw (a:Nat):IntKind.u64.wrap (a:Int)=((a%18446744073709551616:Nat):Int):=by rw[zZ];omega
theorem zO (a b:Nat):IntKind.u64.wrap ((a:Int)*(b:Int))=((a*b%18446744073709551616:Nat):Int):=by rw[<-Int.natCast_mul,uw]
theorem sK (a n:Nat):IntKind.u64.wrap ((a:Int)*(no_index (OfNat.ofNat n)))=((a*(OfNat.ofNat n)%18446744073709551616:Nat):Int):=zO a n
theorem yn (a n:Nat):IntKind.u64.wrap ((no_index (OfNat.ofNat n))*(a:Int))=(((OfNat.ofNat n)*a%18446744073709551616:Nat):Int):=zO n a
theorem GN (a k:Nat):IntKind.u64.wrap ((a:Int)*2^k)=((a*2^k%18446744073709551616:Nat):Int):=by
 have:=zO a (2^k);simpa using this
theorem Du (a b:Nat):IntKind.u64.wrap ((a:Int)+(b:Int))=(((a+b)%18446744073709551616:Nat):Int):=by rw[<-Int.natCast_add,uw]
theorem xq (a n:Nat):IntKind.u64.wrap ((a:Int)+(no_index (OfNat.ofNat n)))=(((a+(OfNat.ofNat n))%18446744073709551616:Nat):Int):=Du a n
theorem Cr (a b:Nat):IntKind.u64.wrap ((a:Int)-(b:Int))=(((a+(18446744073709551616-b%18446744073709551616))%18446744073709551616:Nat):Int):=by rw[zZ];omega
theorem zc (a n:Nat):IntKind.u64.wrap ((a:Int)-(no_index (OfNat.ofNat n)))=(((a+(18446744073709551616-(OfNat.ofNat n)%18446744073709551616))%18446744073709551616:Nat):Int):=Cr a n
theorem za (a n:Nat):IntKind.u64.wrap ((no_index (OfNat.ofNat n))-(a:Int))=((((OfNat.ofNat n)+(18446744073709551616-a%18446744073709551616))%18446744073709551616:Nat):Int):=Cr n a
theorem Y9 (a b:Nat):me .u64 (a:Int) (b:Int)=(((a%18446744073709551616)&&&(b%18446744073709551616):Nat):Int):=by
 have h:=Md .u64 rfl (a:=a%18446744073709551616) (b:=b%18446744073709551616) (aP _ (by decide)) (aP _ (by decide))
 rw[<-h];unfold me;simp only[fY];congr 4<;>(apply BitVec.eq_of_toNat_eq;simp[IntKind.bits])
theorem re (a:Nat):me .u64 (a:Int) 4294967295=((a%4294967296:Nat):Int):=by
 have h:=Y9 a 4294967295;have e:(a%18446744073709551616)&&&(4294967295%18446744073709551616)=a%4294967296:=by
  have:=KP (a%18446744073709551616) 32;rw[show(4294967295%18446744073709551616:Nat)=2^32-1 from rfl,this];omega
 rw[e]at h;exact h
theorem ZZ (h:x<256):IntKind.u8.wrap (x:Int)=(x:Int):=IntWalk.u8_in _ (by omega)
attribute [go_sem] W0 PI XU XX XT XV
def aF (k:IntKind) (l:List Nat):List AV:=l.map fun x:Nat=> .v (.i k (x:Int))
theorem br (k:IntKind) (l:List Nat):(aF k l).length=l.length:=by simp[aF]
theorem rz (k:IntKind) (n:Nat):(List.replicate n [AV.v (PV.i k 0)]).flatten=aF k (List.replicate n 0):=by
 induction n with
 |zero=>rfl
 |succ n ih=>simp[List.replicate_succ,aF]at ih⊢
theorem du {k:IntKind} {l:List Nat} {i:Nat} (h:i<l.length):(aF k l).getD i .u= .v (.i k (l.getD i 0:Nat)):=by
 simp[aF,ca,h]
theorem dT {k:IntKind} {l:List Nat} {y:Int} (h:o<l.length) (hy:y=(x:Int)):(aF k l).take o++[.v (.i k y)]++(aF k l).drop (o+1)=aF k (l.set o x):=by
 subst hy;unfold aF;rw[wY,wG];simp[h]
theorem aA (k:IntKind) (l:List Nat) (n:Nat):(∀y,y∈aF k l->y.bd n=true)=True:=by
 simp only[eq_iff_iff,iff_true];intro y hy;obtain⟨c,-,rfl⟩:=cv.1 hy;rfl
theorem EI (f:Nat->Option Nat) (k:IntKind) (l:List Nat):AV.aU.renL f (aF k l)=some (aF k l):=by
 induction l with
 |nil=>rfl
 |cons c l ih=>
  have:AV.aU.renL f (AV.v (.i k c)::aF k l)=some (AV.v (.i k c)::aF k l):=by simp[AV.aU.renL,AV.aU,ih]
  exact this
structure Hid (p:Prop):Prop where
 v:p
end Go.Dom
namespace Go.Dom
open Go.RowKit
section
variable {P:Program} [cE P] {Q:AX->AS->Prop}
variable {k n nm nx:Nat} {tr:List (Nat×List Nat×List Nat)}
theorem cP {bf:Option (List Nat)} {d:Option Nat} {ops:List jE} {s:AS} {K:List Fr} {f:FuncId} {avs:List AV} {pvs:List PV} {r:PV} (he:p9 P f pvs r) (hK:RW P Q nx bf n ops (k+1) (s.rP d (.v r) []) (wA bf k [] [] tr) K) (ha:my avs=some pvs:=by exact rfl):
  CR P Q nx bf n nm (.v (.fn (.func f))) avs d ops k s tr K:=gp he ha hK
theorem cV {bf:Option (List Nat)} {d:Option Nat} {ops:List jE} {s:AS} {K:List Fr} {f:FuncId} {avs:List AV} {pvs:List PV} {r:PV} (he:p9 P f pvs r) (hK:RW P Q nx bf n ops (k+1) (s.rP d (.v r) []) (wA bf k (avs.flatMap (bC (aB s.h) 9)) [] tr) K) (ha:aW (view (aB s.h) 9) avs=some pvs:=by exact rfl) (hr:r.flat=true:=by exact rfl):
  CR P Q nx bf n nm (.v (.fn (.func f))) avs d ops k s tr K:=e7 he ha hr hK
theorem bP:(∀(c:Bool) (κ:BK),c=true->BX P Q c κ=BX P Q true κ)/\(∀(c:Bool) (κ:BK),c=false->BX P Q c κ=BX P Q false κ)/\(∀(p:Prop) (κ:BK),p->PX P Q p κ=BX P Q true κ)/\(∀(p:Prop) (κ:BK),¬p->PX P Q p κ=BX P Q false κ):=
 ⟨fun _ _ h=>Oq h,fun _ _ h=>Oo h,fun _ _ h=>KE h,fun _ _ h=>KD h⟩
theorem pX {p:Prop} {κ:BK} (h1:p->BX P Q true κ) (h2: ¬p->BX P Q false κ):PX P Q p κ:=PX.mk h1 h2
theorem bX {c:Bool} {κ:BK} (h1:c=true->BX P Q true κ) (h2:c=false->BX P Q false κ):BX P Q c κ:=BX.mk h1 h2
end
theorem bW:(∀n:Int,-9223372036854775808<=n/\n<=9223372036854775807->IntKind.i64.wrap n=n)/\(∀n:Int,0<=n/\n<=18446744073709551615->IntKind.u64.wrap n=n):=⟨IntWalk.i64_in,IntWalk.u64_in⟩
theorem oD {p:Prop} (h:p:=by first|omega|decide):p:=h
theorem lE {t t':List (Nat×AV)} {h h':List (Nat×aH)} {n n':Nat} (hn:n<=n':=by first|decide|omega) (ht:dA t' n t:=by simp[dA,dz,aS,aB,AV.bd,AV.bd.bdL,u8,aq,au,aA]) (hh:dz h' n h:=by simp[dA,dz,aS,aB,AV.bd,AV.bd.bdL,u8,aq,au,aA]):(AS.mk t h n).Le ⟨t',h',n'⟩:=AS.Le.of hn ht hh
end Go.Dom
namespace Go.Dom
open Go.RowKit
class Br (g:Prop) (c d t f:outParam Prop):Prop where
 go:(c->t)->(d->f)->g
section
variable {P:Program} [cE P] {Q:AX->AS->Prop}
instance brP {p:Prop} {κ:BK}:Br (PX P Q p κ) p (¬p) (BX P Q true κ) (BX P Q false κ):=⟨pX⟩
instance brB {c:Bool} {κ:BK}:Br (BX P Q c κ) (c=true) (c=false) (BX P Q true κ) (BX P Q false κ):=⟨bX⟩
end
variable {A0 A1 A2 A3 A4 A5 A6 A7 X Y p q:Prop}
theorem xX {g c d t f:Prop} [b:Br g c d t f] (h1:c->t) (h2:d->f):g:=b.go h1 h2
theorem oO (h:p:=by omega):p:=h
theorem oC (h:p:=by decide):p:=h
theorem oE (h:q) (e:p=q:=by first|(simp(disch:=first|assumption|omega) only[bP,bW]<;>rfl)|exact propext ⟨And.right,fun x=>And.intro oD x⟩|((fail_if_success apply xX);exact propext ⟨fun _=>trivial,fun _=>oD⟩)):p:=e▸h
theorem oT:True:=trivial
theorem lG {t t':List (Nat×AV)} {h h':List (Nat×aH)} {n n':Nat} (a:q) (hn:n<=n':=by first|decide|omega) (e:(dA t' n t/\dz h' n h)=q:=by simp[dA,dz,aS,aB,AV.bd,AV.bd.bdL,u8,aq,au,aA]<;>rfl):(AS.mk t h n).Le ⟨t',h',n'⟩:=AS.Le.of hn (e▸a:dA t' n t/\dz h' n h).1 (e▸a:dA t' n t/\dz h' n h).2
structure Wr (Y:Prop):Prop where
 go:Y
theorem lI {P:Program} [cE P] {Q:AX->AS->Prop} {a:SC} {K:List Fr} {N:Nat} {s:AS} (h:xk P Q a K N s):xk P Q a K N s:=h
theorem aN {A B:Prop} (a:A) (b:B):A/\B:=⟨a,b⟩
theorem z0 (h:p:=by
 repeat' first|simp only[go_sem,seval]|refine oE ?_|apply xX<;>intro hc
 all_goals rfl):p:=h
theorem z1 (a0:A0) (h:A0->p:=by
 intro K0;repeat' first|simp only[go_sem,seval]|refine cP K0 ?_|refine oE ?_|apply xX<;>intro hc
 all_goals rfl):p:=h a0
theorem z2 (a0:A0) (a1:A1) (h:A0->A1->p:=by
 intro K0 K1;repeat' first|simp only[go_sem,seval]|refine cP K0 ?_|refine cP K1 ?_|refine oE ?_|apply xX<;>intro hc
 all_goals rfl):p:=h a0 a1
theorem z3 (a0:A0) (a1:A1) (a2:A2) (h:A0->A1->A2->p:=by
 intro K0 K1 K2;repeat' first|simp only[go_sem,seval]|refine cP K0 ?_|refine cP K1 ?_|refine cP K2 ?_|refine oE ?_|apply xX<;>intro hc
 all_goals rfl):p:=h a0 a1 a2
theorem z4 (a0:A0) (a1:A1) (a2:A2) (a3:A3) (h:A0->A1->A2->A3->p:=by
 intro K0 K1 K2 K3;repeat' first|simp only[go_sem,seval]|refine cP K0 ?_|refine cP K1 ?_|refine cP K2 ?_|refine cP K3 ?_|refine oE ?_|apply xX<;>intro hc
 all_goals rfl):p:=h a0 a1 a2 a3
theorem z7 (a0:A0) (a1:A1) (a2:A2) (a3:A3) (a4:A4) (a5:A5) (a6:A6) (h:A0->A1->A2->A3->A4->A5->A6->p:=by
 intro K0 K1 K2 K3 K4 K5 K6;repeat' first|simp only[go_sem,seval]|refine cP K0 ?_|refine cP K1 ?_|refine cP K2 ?_|refine cP K3 ?_|refine cP K4 ?_|refine cP K5 ?_|refine cP K6 ?_|refine oE ?_|apply xX<;>intro hc
 all_goals rfl):p:=h a0 a1 a2 a3 a4 a5 a6
theorem z8 (a0:A0) (a1:A1) (a2:A2) (a3:A3) (a4:A4) (a5:A5) (a6:A6) (a7:A7) (h:A0->A1->A2->A3->A4->A5->A6->A7->p:=by
 intro K0 K1 K2 K3 K4 K5 K6 K7;repeat' first|simp only[go_sem,seval]|refine cP K0 ?_|refine cP K1 ?_|refine cP K2 ?_|refine cP K3 ?_|refine cP K4 ?_|refine cP K5 ?_|refine cP K6 ?_|refine cP K7 ?_|refine oE ?_|apply xX<;>intro hc
 all_goals rfl):p:=h a0 a1 a2 a3 a4 a5 a6 a7
theorem On (h:p:=by
 repeat' first|simp only[go_sem,seval]|refine aj ?_|refine oE ?_|apply xX<;>intro hc
 all_goals rfl):p:=h
theorem YO (a0:A0) (h:A0->p:=by
 intro K0;repeat' first|simp only[go_sem,seval]|refine cP K0 ?_|refine aj ?_|refine oE ?_|apply xX<;>intro hc
 all_goals rfl):p:=h a0
theorem Sl (a0:A0) (a1:A1) (h:A0->A1->p:=by
 intro K0 K1;repeat' first|simp only[go_sem,seval]|refine cP K0 ?_|refine cP K1 ?_|refine aj ?_|refine oE ?_|apply xX<;>intro hc
 all_goals rfl):p:=h a0 a1
theorem Z1 (a0:A0) (a1:A1) (a2:A2) (h:A0->A1->A2->p:=by
 intro K0 K1 K2;repeat' first|simp only[go_sem,seval]|refine cP K0 ?_|refine cP K1 ?_|refine cP K2 ?_|refine aj ?_|refine oE ?_|apply xX<;>intro hc
 all_goals rfl):p:=h a0 a1 a2
theorem Z3 (a0:A0) (a1:A1) (a2:A2) (a3:A3) (h:A0->A1->A2->A3->p:=by
 intro K0 K1 K2 K3;repeat' first|simp only[go_sem,seval]|refine cP K0 ?_|refine cP K1 ?_|refine cP K2 ?_|refine cP K3 ?_|refine aj ?_|refine oE ?_|apply xX<;>intro hc
 all_goals rfl):p:=h a0 a1 a2 a3
theorem zu5 (a0:A0) (a1:A1) (a2:A2) (a3:A3) (a4:A4) (h:A0->A1->A2->A3->A4->p:=by
 intro K0 K1 K2 K3 K4;repeat' first|simp only[go_sem,seval]|refine cP K0 ?_|refine cP K1 ?_|refine cP K2 ?_|refine cP K3 ?_|refine cP K4 ?_|refine aj ?_|refine oE ?_|apply xX<;>intro hc
 all_goals rfl):p:=h a0 a1 a2 a3 a4
theorem zg4 (y:Y) (a0:A0) (a1:A1) (a2:A2) (a3:A3) (h:Y->A0->A1->A2->A3->p:=by
 intro KY K0 K1 K2 K3;repeat' first|simp only[go_sem,seval]|refine cP K0 ?_|refine cP K1 ?_|refine cP K2 ?_|refine cP K3 ?_|refine oE ?_|exact KY _ lE|apply xX<;>intro hc
 all_goals rfl):p:=h y a0 a1 a2 a3
theorem YL (h:p:=by
 repeat' first|simp only[go_sem,seval]|refine oE ?_|apply xX<;>intro hc
 all_goals simp_all):p:=h
theorem Om (a0:A0) (h:A0->p:=by
 intro K0;repeat' first|simp only[go_sem,seval]|refine cP K0 ?_|refine oE ?_|apply xX<;>intro hc
 all_goals (clear K0;simp_all)):p:=h a0
theorem Og (a0:A0) (a1:A1) (h:A0->A1->p:=by
 intro K0 K1;repeat' first|simp only[go_sem,seval]|refine cP K0 ?_|refine cP K1 ?_|refine oE ?_|apply xX<;>intro hc
 all_goals (clear K0 K1;simp_all)):p:=h a0 a1
theorem YM (a0:A0) (a1:A1) (a2:A2) (a3:A3) (h:A0->A1->A2->A3->p:=by
 intro K0 K1 K2 K3;repeat' first|simp only[go_sem,seval]|refine cP K0 ?_|refine cP K1 ?_|refine cP K2 ?_|refine cP K3 ?_|refine oE ?_|apply xX<;>intro hc
 all_goals (clear K0 K1 K2 K3;simp_all)):p:=h a0 a1 a2 a3
theorem zs7 (a0:A0) (a1:A1) (a2:A2) (a3:A3) (a4:A4) (a5:A5) (a6:A6) (h:A0->A1->A2->A3->A4->A5->A6->p:=by
 intro K0 K1 K2 K3 K4 K5 K6;repeat' first|simp only[go_sem,seval]|refine cP K0 ?_|refine cP K1 ?_|refine cP K2 ?_|refine cP K3 ?_|refine cP K4 ?_|refine cP K5 ?_|refine cP K6 ?_|refine oE ?_|apply xX<;>intro hc
 all_goals (clear K0 K1 K2 K3 K4 K5 K6;simp_all)):p:=h a0 a1 a2 a3 a4 a5 a6
theorem YN (a0:A0) (a1:A1) (a2:A2) (h:A0->A1->A2->p:=by
 intro K0 K1 K2;repeat' first|simp only[go_sem,seval]|refine cP K0 ?_|refine cP K1 ?_|refine cP K2 ?_|refine aj ?_|refine oE ?_|apply xX<;>intro hc
 all_goals (clear K0 K1 K2;simp_all)):p:=h a0 a1 a2
theorem qY (y:Y) (h:Wr Y->p:=by
 intro KY;repeat' first|simp only[go_sem,seval]|exact lI KY.1|refine oE ?_|apply xX<;>intro hc
 all_goals rfl):p:=h ⟨y⟩
theorem Z0 (a0:A0) (y:Y) (h:Wr Y->A0->p:=by
 intro KY K0;repeat' first|simp only[go_sem,seval]|refine cP K0 ?_|exact lI KY.1|refine oE ?_|apply xX<;>intro hc
 all_goals rfl):p:=h ⟨y⟩ a0
theorem zl2 (a0:A0) (a1:A1) (y:Y) (h:Wr Y->A0->A1->p:=by
 intro KY K0 K1;repeat' first|simp only[go_sem,seval]|refine cP K0 ?_|refine cP K1 ?_|exact lI KY.1|refine oE ?_|apply xX<;>intro hc
 all_goals rfl):p:=h ⟨y⟩ a0 a1
theorem vP (y:Y) (h:Wr Y->p:=by
 intro KY;repeat' first|simp only[go_sem,seval]|refine oE ?_|apply xX<;>intro hc
 exact KY.1):p:=h ⟨y⟩
theorem YV (a0:A0) (y:Y) (h:Wr Y->A0->p:=by
 intro KY K0;repeat' first|simp only[go_sem,seval]|refine cP K0 ?_|refine oE ?_|apply xX<;>intro hc
 exact KY.1):p:=h ⟨y⟩ a0
theorem gU (x:X) (h:(True->X)->p:=by
 intro KX;repeat' first|simp only[go_sem,seval,KX trivial]|refine oE ?_|apply xX<;>intro hc
 all_goals rfl):p:=h (fun _=>x)
theorem lF (x:X) (a0:A0) (h:(True->X)->A0->p:=by
 intro KX K0;repeat' first|simp only[go_sem,seval,KX trivial]|refine cP K0 ?_|refine oE ?_|apply xX<;>intro hc
 all_goals rfl):p:=h (fun _=>x) a0
theorem zA (x:X) (a0:A0) (a1:A1) (h:(True->X)->A0->A1->p:=by
 intro KX K0 K1;repeat' first|simp only[go_sem,seval,KX trivial]|refine cP K0 ?_|refine cP K1 ?_|refine oE ?_|apply xX<;>intro hc
 all_goals rfl):p:=h (fun _=>x) a0 a1
theorem zB (x:X) (a0:A0) (a1:A1) (a2:A2) (a3:A3) (h:(True->X)->A0->A1->A2->A3->p:=by
 intro KX K0 K1 K2 K3;repeat' first|simp only[go_sem,seval,KX trivial]|refine cP K0 ?_|refine cP K1 ?_|refine cP K2 ?_|refine cP K3 ?_|refine oE ?_|apply xX<;>intro hc
 all_goals rfl):p:=h (fun _=>x) a0 a1 a2 a3
theorem VX (x:X) (a0:A0) (a1:A1) (a2:A2) (a3:A3) (a4:A4) (a5:A5) (a6:A6) (h:(True->X)->A0->A1->A2->A3->A4->A5->A6->p:=by
 intro KX K0 K1 K2 K3 K4 K5 K6;repeat' first|simp only[go_sem,seval,KX trivial]|refine cP K0 ?_|refine cP K1 ?_|refine cP K2 ?_|refine cP K3 ?_|refine cP K4 ?_|refine cP K5 ?_|refine cP K6 ?_|refine oE ?_|apply xX<;>intro hc
 all_goals rfl):p:=h (fun _=>x) a0 a1 a2 a3 a4 a5 a6
theorem G3 {A8 A9 A10 A11:Prop} (x:X) (a0:A0) (a1:A1) (a2:A2) (a3:A3) (a4:A4) (a5:A5) (a6:A6) (a7:A7) (a8:A8) (a9:A9) (a10:A10) (a11:A11) (h:(True->X)->A0->A1->A2->A3->A4->A5->A6->A7->A8->A9->A10->A11->p:=by
 intro KX K0 K1 K2 K3 K4 K5 K6 K7 K8 K9 K10 K11;repeat' first|simp only[go_sem,seval,KX trivial]|refine cP K0 ?_|refine cP K1 ?_|refine cP K2 ?_|refine cP K3 ?_|refine cP K4 ?_|refine cP K5 ?_|refine cP K6 ?_|refine cP K7 ?_|refine cP K8 ?_|refine cP K9 ?_|refine cP K10 ?_|refine cP K11 ?_|refine oE ?_|apply xX<;>intro hc
 all_goals rfl):p:=h (fun _=>x) a0 a1 a2 a3 a4 a5 a6 a7 a8 a9 a10 a11
theorem V0 (x:X) (h:(True->X)->p:=by
 intro KX;repeat' first|simp only[go_sem,seval,KX trivial]|refine aj ?_|refine oE ?_|apply xX<;>intro hc
 all_goals rfl):p:=h (fun _=>x)
theorem Ro (x:X) (a0:A0) (a1:A1) (a2:A2) (a3:A3) (h:(True->X)->A0->A1->A2->A3->p:=by
 intro KX K0 K1 K2 K3;repeat' first|simp only[go_sem,seval,KX trivial]|refine cP K0 ?_|refine cP K1 ?_|refine cP K2 ?_|refine cP K3 ?_|refine aj ?_|refine oE ?_|apply xX<;>intro hc
 all_goals rfl):p:=h (fun _=>x) a0 a1 a2 a3
theorem ko (x:X) (y:Y) (h:(True->X)->Y->p:=by
 intro KX KY;repeat' first|simp only[go_sem,seval,KX trivial]|refine oE ?_|exact KY _ lE|apply xX<;>intro hc
 all_goals rfl):p:=h (fun _=>x) y
theorem kp (x:X) (y:Y) (a0:A0) (h:(True->X)->Y->A0->p:=by
 intro KX KY K0;repeat' first|simp only[go_sem,seval,KX trivial]|refine cP K0 ?_|refine oE ?_|exact KY _ lE|apply xX<;>intro hc
 all_goals rfl):p:=h (fun _=>x) y a0
theorem zu (x:X) (y:Y) (a0:A0) (a1:A1) (h:(True->X)->Y->A0->A1->p:=by
 intro KX KY K0 K1;repeat' first|simp only[go_sem,seval,KX trivial]|refine cP K0 ?_|refine cP K1 ?_|refine oE ?_|exact KY _ lE|apply xX<;>intro hc
 all_goals rfl):p:=h (fun _=>x) y a0 a1
theorem VY (x:X) (a0:A0) (h:(True->X)->A0->p:=by
 intro KX K0;repeat' first|simp only[go_sem,seval,KX trivial]|refine cP K0 ?_|refine oE ?_|apply xX<;>intro hc
 all_goals (clear KX K0;simp_all)):p:=h (fun _=>x) a0
theorem Rn (x:X) (a0:A0) (a1:A1) (h:(True->X)->A0->A1->p:=by
 intro KX K0 K1;repeat' first|simp only[go_sem,seval,KX trivial]|refine cP K0 ?_|refine cP K1 ?_|refine oE ?_|apply xX<;>intro hc
 all_goals (clear KX K0 K1;simp_all)):p:=h (fun _=>x) a0 a1
theorem VZ (x:X) (a0:A0) (a1:A1) (a2:A2) (a3:A3) (h:(True->X)->A0->A1->A2->A3->p:=by
 intro KX K0 K1 K2 K3;repeat' first|simp only[go_sem,seval,KX trivial]|refine cP K0 ?_|refine cP K1 ?_|refine cP K2 ?_|refine cP K3 ?_|refine oE ?_|apply xX<;>intro hc
 all_goals (clear KX K0 K1 K2 K3;simp_all)):p:=h (fun _=>x) a0 a1 a2 a3
theorem Of (x:X) (a0:A0) (a1:A1) (a2:A2) (a3:A3) (a4:A4) (a5:A5) (a6:A6) (h:(True->X)->A0->A1->A2->A3->A4->A5->A6->p:=by
 intro KX K0 K1 K2 K3 K4 K5 K6;repeat' first|simp only[go_sem,seval,KX trivial]|refine cP K0 ?_|refine cP K1 ?_|refine cP K2 ?_|refine cP K3 ?_|refine cP K4 ?_|refine cP K5 ?_|refine cP K6 ?_|refine oE ?_|apply xX<;>intro hc
 all_goals (clear KX K0 K1 K2 K3 K4 K5 K6;simp_all)):p:=h (fun _=>x) a0 a1 a2 a3 a4 a5 a6
theorem dY (x:X) (y:Y) (h:(True->X)->Wr Y->p:=by
 intro KX KY;repeat' first|simp only[go_sem,seval,KX trivial]|exact lI KY.1|refine oE ?_|apply xX<;>intro hc
 all_goals rfl):p:=h (fun _=>x) ⟨y⟩
theorem rU (x:X) (a0:A0) (y:Y) (h:(True->X)->Wr Y->A0->p:=by
 intro KX KY K0;repeat' first|simp only[go_sem,seval,KX trivial]|refine cP K0 ?_|exact lI KY.1|refine oE ?_|apply xX<;>intro hc
 all_goals rfl):p:=h (fun _=>x) ⟨y⟩ a0
theorem G4 (x:X) (a0:A0) (a1:A1) (y:Y) (h:(True->X)->Wr Y->A0->A1->p:=by
 intro KX KY K0 K1;repeat' first|simp only[go_sem,seval,KX trivial]|refine cP K0 ?_|refine cP K1 ?_|exact lI KY.1|refine oE ?_|apply xX<;>intro hc
 all_goals rfl):p:=h (fun _=>x) ⟨y⟩ a0 a1
theorem tN (x:X) (a0:A0) (a1:A1) (a2:A2) (a3:A3) (y:Y) (h:(True->X)->Wr Y->A0->A1->A2->A3->p:=by
 intro KX KY K0 K1 K2 K3;repeat' first|simp only[go_sem,seval,KX trivial]|refine cP K0 ?_|refine cP K1 ?_|refine cP K2 ?_|refine cP K3 ?_|exact lI KY.1|refine oE ?_|apply xX<;>intro hc
 all_goals rfl):p:=h (fun _=>x) ⟨y⟩ a0 a1 a2 a3
theorem Rl (x:X) (a0:A0) (a1:A1) (a2:A2) (a3:A3) (a4:A4) (a5:A5) (a6:A6) (y:Y) (h:(True->X)->Wr Y->A0->A1->A2->A3->A4->A5->A6->p:=by
 intro KX KY K0 K1 K2 K3 K4 K5 K6;repeat' first|simp only[go_sem,seval,KX trivial]|refine cP K0 ?_|refine cP K1 ?_|refine cP K2 ?_|refine cP K3 ?_|refine cP K4 ?_|refine cP K5 ?_|refine cP K6 ?_|exact lI KY.1|refine oE ?_|apply xX<;>intro hc
 all_goals rfl):p:=h (fun _=>x) ⟨y⟩ a0 a1 a2 a3 a4 a5 a6
theorem eC (x:X) (y:Y) (h:(True->X)->Wr Y->p:=by
 intro KX KY;repeat' first|simp only[go_sem,seval,KX trivial]|refine oE ?_|apply xX<;>intro hc
 exact KY.1):p:=h (fun _=>x) ⟨y⟩
theorem jd (x:X) (a0:A0) (y:Y) (h:(True->X)->Wr Y->A0->p:=by
 intro KX KY K0;repeat' first|simp only[go_sem,seval,KX trivial]|refine cP K0 ?_|refine oE ?_|apply xX<;>intro hc
 exact KY.1):p:=h (fun _=>x) ⟨y⟩ a0
theorem tO (x:X) (a0:A0) (a1:A1) (y:Y) (h:(True->X)->Wr Y->A0->A1->p:=by
 intro KX KY K0 K1;repeat' first|simp only[go_sem,seval,KX trivial]|refine cP K0 ?_|refine cP K1 ?_|refine oE ?_|apply xX<;>intro hc
 exact KY.1):p:=h (fun _=>x) ⟨y⟩ a0 a1
theorem Di (x:X) (a0:A0) (a1:A1) (a2:A2) (a3:A3) (y:Y) (h:(True->X)->Wr Y->A0->A1->A2->A3->p:=by
 intro KX KY K0 K1 K2 K3;repeat' first|simp only[go_sem,seval,KX trivial]|refine cP K0 ?_|refine cP K1 ?_|refine cP K2 ?_|refine cP K3 ?_|refine oE ?_|apply xX<;>intro hc
 exact KY.1):p:=h (fun _=>x) ⟨y⟩ a0 a1 a2 a3
theorem YK (x:X) (a0:A0) (a1:A1) (a2:A2) (a3:A3) (a4:A4) (a5:A5) (a6:A6) (y:Y) (h:(True->X)->Wr Y->A0->A1->A2->A3->A4->A5->A6->p:=by
 intro KX KY K0 K1 K2 K3 K4 K5 K6;repeat' first|simp only[go_sem,seval,KX trivial]|refine cP K0 ?_|refine cP K1 ?_|refine cP K2 ?_|refine cP K3 ?_|refine cP K4 ?_|refine cP K5 ?_|refine cP K6 ?_|refine oE ?_|apply xX<;>intro hc
 exact KY.1):p:=h (fun _=>x) ⟨y⟩ a0 a1 a2 a3 a4 a5 a6
end Go.Dom
namespace Go.Dom
variable {a b:Bytes} {i k n:Nat}
def num:Bytes->Nat
 |[]=>0
 |x::r=>x.toNat*256^r.length+num r
def be:Nat->Nat->Bytes
 |0,_=>[]
 |k+1,n=>UInt8.ofNat (n/256^k)::be k n
def fB:Bytes->Bytes
 |[]=>[]
 |x::r=>if x=0 then fB r else x::r
def bR (n:Nat):Bytes:=fB (be (n.log2/8+1) n)
def aa (a:Bytes):Bool:=decide (a.length<=128)&&(a.length==0||a.headD 0 !=0)
theorem cH (k n:Nat):(be k n).length=k:=by induction k<;>simp_all[be]
theorem iO (k:Nat):0<256^k:=gT (by decide)
theorem ct (a:Bytes):num a<256^a.length:=by
 induction a with
 |nil=>decide
 |cons x r ih=>
  simp only[num,List.length_cons,Nat.pow_succ];have:=x.toNat_lt;have h2:x.toNat*256^r.length<=255*256^r.length:=dq _ (by omega)
  omega
theorem yq (a b:Bytes):num (a++b)=num a*256^b.length+num b:=by
 induction a with
 |nil=>simp[num]
 |cons x r ih=>simp only[List.cons_append,num,ih,bY,cY,dc,cA];omega
theorem yt (a:Bytes) (x:UInt8):num (a++[x])=num a*256+x.toNat:=by simp[yq,num]
theorem yr (k n:Nat):num (be k n)=n%256^k:=by
 induction k with
 |zero=>simp[be,num,lA]
 |succ k ih=>
  simp only[be,num,cH,ih,ig];have h:=oS (x:=n) (a:=256^k) (b:=256);rw[show(256:Nat)^(k+1)=256^k*256 from Nat.pow_succ ..,h,bU (256^k)]
  show n/256^k%256*256^k+n%256^k= _;omega
theorem Bt (a:Bytes):be a.length (num a)=a:=by
 induction a with
 |nil=>rfl
 |cons x r ih=>
  have h:num (x::r)=x.toNat*256^r.length+num r:=rfl;have h1:=ct r;have h2:num (x::r)/256^r.length=x.toNat:=by
   rw[h,bU,wC (iO _),ir h1];omega
  have h3: ∀k m m',m%256^k=m'%256^k->be k m=be k m':=by
   intro k
   induction k with
   |zero=>intros;rfl
   |succ k ih=>
    intro m m' hm;have e1:m/256^k%256=m'/256^k%256:=by
     rw[Nat.pow_succ]at hm;have a1:=oS (x:=m) (a:=256^k) (b:=256);have a2:=oS (x:=m') (a:=256^k) (b:=256);have b1:m%(256^k*256)/256^k=m/256^k%256:=by rw[qA]
     have b2:m'%(256^k*256)/256^k=m'/256^k%256:=by rw[qA]
     rw[<-b1,<-b2,hm]
    have e2:m%256^k=m'%256^k:=by
     have a1:m%256^(k+1)%256^k=m%256^k:=wE _ (CE 256 (Nat.le_succ k));have a2:m'%256^(k+1)%256^k=m'%256^k:=wE _ (CE 256 (Nat.le_succ k));rw[<-a1,<-a2,hm]
    simp only[be,ih m m' e2];congr 1;apply jB.1;simpa using e1
  simp only[List.length_cons,be,h2];rw[show UInt8.ofNat x.toNat=x by simp,h3 r.length (num (x::r)) (num r) (by rw[h,Nat.mul_add_mod_self_right]),ih]
theorem rN (a:Bytes): ∃k,a=List.replicate k 0++fB a/\(fB a=[]\/(fB a).headD 0≠0):=by
 induction a with
 |nil=>exact⟨0,rfl, .inl rfl⟩
 |cons x r ih=>
  simp only[fB];split
  ·rename_i h;subst h;obtain⟨k,e,h⟩:=ih;exact⟨k+1,by simp[List.replicate_succ,<-e],h⟩
  ·rename_i h;exact⟨0,rfl, .inr h⟩
theorem JM (k:Nat) (a:Bytes):num (List.replicate k 0++a)=num a:=by
 induction k with
 |zero=>rfl
 |succ k ih=>simp[List.replicate_succ,num,ih]
theorem yu (a:Bytes):num (fB a)=num a:=by
 obtain⟨k,e,-⟩:=rN a
 conv=>rhs;rw[e,JM]
theorem NY (a:Bytes):(fB a).length<=a.length:=by
 obtain⟨k,e,-⟩:=rN a;have:=congrArg List.length e;simp at this;omega
def Canon (a:Bytes):Prop:=a=[]\/a.headD 0≠0
theorem rO (a:Bytes):Canon (fB a):=by obtain⟨k,-,h⟩:=rN a;exact h
theorem nI (h:Canon a) (hne:a≠[]):256^(a.length-1)<=num a:=by
 cases a with
 |nil=>exact aM rfl hne
 |cons x r=>
  rcases h with h|h
  ·cases h
  ·have hx:0<x.toNat:=by
    rcases jv x.toNat with e|e
    ·exact aM (jB.1 e:x=0) h
    ·exact e
   simp only[num,List.length_cons,qu];have:=dq (256^r.length) hx;omega
theorem tZ (ha:Canon a) (hb:Canon b) (h:num a=num b):a=b:=by
 have key: ∀{a b:Bytes},Canon a->Canon b->num a=num b->a.length<=b.length:=by
  intro a b ha hb h
  by_cases hne:a=[]
  ·subst hne;simp
  ·have h1:=nI ha hne;have h2:=ct b;have h3:256^(a.length-1)<256^b.length:=by omega
   have:=(qF (by decide:1<256)).1 h3
   omega
 have hl:a.length=b.length:=CI (key ha hb h) (key hb ha h.symm);have h1:=Bt a;rw[h,hl,Bt b]at h1;exact h1.symm
theorem P5 (n:Nat):n<256^(n.log2/8+1):=by
 have h1:n<2^(n.log2+1):=tJ;have h2:(256:Nat)^(n.log2/8+1)=2^(8*(n.log2/8+1)):=by rw[jA]
 rw[h2];exact b9 h1 (cM (by decide) (by omega))
theorem aY (n:Nat):num (bR n)=n:=by
 rw[bR,yu,yr];exact bw (P5 n)
theorem fF (n:Nat):Canon (bR n):=rO _
theorem Ho (h:Canon a):bR (num a)=a:=tZ (fF _) h (aY _)
theorem NX (a:Bytes):fB a=bR (num a):=tZ (rO _) (fF _) (by rw[yu,aY])
theorem js (h:n<256^k):fB (be k n)=bR n:=by rw[NX,yr,bw h]
theorem Lt:bR 0=[]:=by decide
theorem n8:(bR n).length<=k↔n<256^k:=by
 constructor
 ·intro h;have:=ct (bR n);rw[aY]at this;exact b9 this (cM (by decide) h)
 ·intro h
  by_cases hne:bR n=[]
  ·simp[hne]
  ·have h1:=nI (fF n) hne;rw[aY]at h1;have h3:256^((bR n).length-1)<256^k:=by omega
   have:=(qF (by decide:1<256)).1 h3
   omega
theorem vR {m n:Nat}:bR m=bR n↔m=n:=⟨fun h=>by rw[<-aY m,h,aY],fun h=>by rw[h]⟩
theorem gA:bR n=[]↔n=0:=by rw[<-Lt];exact vR
theorem rQ (a:Bytes):aa a=true↔a.length<=128/\Canon a:=by
 unfold aa Canon
 cases a with
 |nil=>simp
 |cons x r=>simp
theorem bG (h:aa a=true):Canon a:=((rQ a).1 h).2
theorem fm (h:aa a=true):bR (num a)=a:=Ho (bG h)
theorem dD (h:aa a=true):a.length<=128:=((rQ a).1 h).1
theorem ov (h:aa a=true):num a<256^128:=b9 (ct a) (cM (by decide) (dD h))
theorem jY (h:n<256^128):aa (bR n)=true:=(rQ _).2 ⟨n8.2 h,fF n⟩
theorem sL (ha:aa a=true):num a=0↔a=[]:=by
 constructor
 ·intro h;exact tZ (bG ha) (.inl rfl) h
 ·intro h;subst h;rfl
theorem ux (a:Bytes) (h:i<a.length):(a.getD (a.length-1-i) 0).toNat=num a/256^i%256:=by
 have e:a=a.take (a.length-1-i)++(a.getD (a.length-1-i) 0::a.drop (a.length-i)):=by
  have h2:a.length-1-i<a.length:=by omega
  conv=>lhs;rw[<-tj (a.length-1-i) a,jt h2]
  rw[show a.length-1-i+1=a.length-i by omega]
  simp[ca,h2]
 have hl:(a.drop (a.length-i)).length=i:=by simp;omega
 have hn:=yq (a.take (a.length-1-i)) (a.getD (a.length-1-i) 0::a.drop (a.length-i));rw[<-e]at hn;simp only[num,List.length_cons,hl]at hn;have hlt:=ct (a.drop (a.length-i));rw[hl]at hlt;generalize (a.getD (a.length-1-i) 0)=c at hn⊢;have hc:=c.toNat_lt;have:num a=(num (a.take (a.length-1-i))*256+c.toNat)*256^i+num (a.drop (a.length-i)):=by
  rw[hn,Nat.pow_succ,dc,cA,bU 256];omega
 rw[this,bU _ (256^i),wC (iO _),ir hlt];omega
theorem rE (a:Bytes) (h:a.length<=i):num a/256^i=0:=ir (b9 (ct a) (cM (by decide) h))
theorem vk (x y:UInt8) {r s:Bytes} (hl:r.length=s.length):num (x::r)<num (y::s)↔x.toNat<y.toNat\/(x=y/\num r<num s):=by
 simp only[num,hl];have h1:=ct r;have h2:=ct s;rw[hl]at h1;generalize 256^s.length=p at h1 h2⊢;rcases CK x.toNat y.toNat with h|h|h
 ·have:=dq p (show x.toNat+1<=y.toNat from h)
  rw[dc]at this;simp only[h,true_or,iff_true];omega
 ·have:x=y:=jB.1 h;subst this;simp
 ·have:=dq p (show y.toNat+1<=x.toNat from h)
  rw[dc]at this;have hne:x≠y:=fun e=>by subst e;omega
  simp only[hne,false_and,or_false];omega
theorem ix (hb:Canon b) (h:a.length<b.length):num a<num b:=by
 have h1:=ct a;have h2:=nI hb (by intro e;subst e;simp at h)
 exact b9 h1 (fQ (cM (by decide) (by omega)) h2)
theorem Ix {α:Type} (l m:List α) (x y:α):(l++x::m).set l.length y=l++y::m:=by simp
theorem G2 (k:Nat):(List.replicate (k+1) (0:UInt8))=List.replicate k 0++[0]:=by rw[CJ]
theorem ia (hi:i<n) (c:UInt8) (b:Bytes):(List.replicate (n-i) (0:UInt8)++b).set (n-1-i) c=List.replicate (n-(i+1)) 0++(c::b):=by
 obtain⟨k,rfl⟩: ∃k,n=k+i+1:=⟨n-i-1,by omega⟩
 rw[show k+i+1-i=k+1 by omega,show k+i+1-1-i=k by omega,show k+i+1-(i+1)=k by omega,G2]
 have:=Ix (List.replicate k (0:UInt8)) b 0 c;simpa using this
end Go.Dom
namespace Go.Dom
open Go
variable {R a b j k n v:Nat} {f g:Nat->Nat}
def dv (x k:Nat):Nat:=x/256^k%256
def vT (x:Int) (k:Nat):Int:=x/256^k%256
theorem vU (x k:Nat):vT x k=(dv x k:Nat):=by
 unfold vT dv;rw[Int.natCast_emod,Int.natCast_ediv,Int.natCast_pow];rfl
theorem Hx (x:Int) (k:Nat):0<=vT x k/\vT x k<256:=⟨lC _ (by decide),oW _ (by decide)⟩
theorem JV (i:Nat):(0:Int)<256^i:=Int.pow_pos (by decide)
def cy (U V a:Int) (i:Nat):Int:=(U%256^i+a*(V%256^i))/256^i
theorem Hv (U V a:Int):cy U V a 0=0:=by simp[cy,Int.emod_one]
theorem FM (U V a:Int) (i:Nat):(U+a*V)/256^i=cy U V a i+(U/256^i+a*(V/256^i)):=by
 have hB:=JV i;unfold cy;have e1:=nh U (256^i);have e2:=nh V (256^i);have e:U+a*V=(U%256^i+a*(V%256^i))+256^i*(U/256^i+a*(V/256^i)):=by
  rw[lk,CS (256^i) a];have:a*V=a*(V%256^i)+a*(256^i*(V/256^i)):=by rw[<-lk,e2]
  omega
 rw[e,wZ _ _ (Int.ne_of_gt hB)]
theorem Pw (U V a:Int) (i:Nat):cy U V a (i+1)=(vT U i+a*vT V i+cy U V a i)/256:=by
 have hB:=JV i;have h (W:Int):W%256^(i+1)=W%256^i+256^i*vT W i:=by
  unfold vT;refine((CZ (q:=W/256^i/256) (JV (i+1))).2 ⟨?_,?_,?_⟩).2
  ·have e1:=nh W (256^i);have e2:=nh (W/256^i) 256;have:256^i*(W/256^i)=256^i*(W/256^i%256)+256^i*(256*(W/256^i/256)):=by rw[<-lk,e2]
   rw[Int.pow_succ,lB];omega
  ·have:=lC W (Int.ne_of_gt hB);have:=Int.mul_nonneg (Int.le_of_lt hB) (lC (W/256^i) (by decide:(256:Int)≠0))
   omega
  ·have h1:=oW W hB;have h2:=oW (W/256^i) (by decide:(0:Int)<256)
   have h3:256^i*(W/256^i%256)<=256^i*255:=Int.mul_le_mul_of_nonneg_left (by omega) (Int.le_of_lt hB)
   rw[Int.pow_succ];omega
 have e:U%256^(i+1)+a*(V%256^(i+1))=(U%256^i+a*(V%256^i))+256^i*(vT U i+a*vT V i):=by
  rw[h U,h V,lk,lk,CS a];omega
 show(_+ _)/ _= _;rw[e,Int.pow_succ,<-Int.ediv_ediv_of_nonneg (Int.le_of_lt hB),wZ _ _ (Int.ne_of_gt hB)];congr 1;unfold cy;omega
theorem Hu (U V a:Int) (i:Nat):vT U i+a*vT V i+cy U V a i=256*cy U V a (i+1)+vT (U+a*V) i:=by
 have h1:=Pw U V a i;have h2:=FM U V a i;have e:vT (U+a*V) i=(vT U i+a*vT V i+cy U V a i)%256:=by
  unfold vT;rw[h2];have e1:=nh (U/256^i) 256;have e2:=nh (V/256^i) 256;have e3:a*(V/256^i)=a*(V/256^i%256)+256*(a*(V/256^i/256)):=by
   rw[CS,<-lk,e2]
  have:cy U V a i+(U/256^i+a*(V/256^i))=(U/256^i%256+a*(V/256^i%256)+cy U V a i)+256*(U/256^i/256+a*(V/256^i/256)):=by omega
  rw[this,tK]
 rw[h1,e];omega
theorem Mb {D:Nat} (hn:1<=n) (h1:128*256^(n-1)<=D) (h2:D<256^n) (hR:R<256*D):
  128<=dv D (n-1)/\R/D<=(dv R n*256+dv R (n-1))/dv D (n-1)/\R/D<=255:=by
 obtain⟨k,rfl⟩: ∃k,n=k+1:=⟨n-1,by omega⟩
 rw[qu]at h1⊢;have hB:0<256^k:=gT (by decide)
 rw[Nat.pow_succ]at h2;have hD0:0<D:=by omega
 have v1:D/256^k<256:=by rw[im hB];omega
 have v2:128<=D/256^k:=(tE hB).2 h1;have v3:dv D k=D/256^k:=bw v1;have u1:R/256^k<65536:=by rw[im hB];omega
 have u3:dv R (k+1)*256+dv R k=R/256^k:=by
  unfold dv;rw[Nat.pow_succ,<-eL];clear v1 v2 v3 h1 h2;generalize R/256^k=y at*;omega
 rw[v3,u3];have hRD:R/D<256:=by
  rw[im hD0];exact hR
 refine⟨v2,?_,by omega⟩
 rw[tE (by omega),tE hB,cA]
 exact fQ (kS _ (qv _ _)) (qv _ _)
theorem DO (x i s:Nat) (hs:s<=7):dv (x*2^s) (i+1)=dv x (i+1)*2^s%256+dv x i/2^(8-s):=by
 unfold dv;have hB:0<256^i:=gT (by decide)
 obtain⟨y,hy⟩: ∃y,y=x/256^i:=⟨_,rfl⟩;obtain⟨e,he,hlt⟩: ∃e,x*2^s/256^i=y*2^s+e/\e<2^s:=by
  refine⟨x%256^i*2^s/256^i,?_,?_⟩
  ·have:x*2^s=x%256^i*2^s+256^i*(y*2^s):=by
    rw[<-cA,<-dc,hy,Nat.mod_add_div]
   rw[this,nq _ _ hB,gn]
  ·rw[im hB,bU];exact II (aP _ hB) (gT (by decide))
 rw[Nat.pow_succ,<-eL,<-eL,he,<-hy];clear hy he hB;obtain rfl|rfl|rfl|rfl|rfl|rfl|rfl|rfl:s=0\/s=1\/s=2\/s=3\/s=4\/s=5\/s=6\/s=7:=by omega
 all_goals simp only[Nat.pow_zero,Nat.reducePow,Nat.reduceSub]at hlt⊢;omega
theorem Ar (x s:Nat):dv (x*2^s) 0=dv x 0*2^s%256:=by
 unfold dv;rw[Nat.pow_zero,iq,iq,jy]
theorem FQ (x i s:Nat) (hs:s<=7):(dv x i+dv x (i+1)*256)/2^s%256=dv (x/2^s) i:=by
 unfold dv;rw[eL,bU (2^s),<-eL,Nat.pow_succ,<-eL];generalize x/256^i=y;obtain rfl|rfl|rfl|rfl|rfl|rfl|rfl|rfl:s=0\/s=1\/s=2\/s=3\/s=4\/s=5\/s=6\/s=7:=by omega
 all_goals simp only[Nat.pow_zero,Nat.reducePow];omega
theorem o9 (x k:Nat):dv x k<256:=aP _ (by decide)
theorem FP {x:Nat} (h:x<256^k):dv x k=0:=by unfold dv;rw[ir h]
def dl (N:Nat) (f:Nat->Nat):List Nat:=(List.range N).map f
theorem l8 (N:Nat) (f:Nat->Nat):(dl N f).length=N:=by simp[dl]
theorem uc {N:Nat} (h:k<N):(dl N f).getD k 0=f k:=by simp[dl,ca,h]
theorem xM {N:Nat} (h: ∀k,k<N->f k=g k):dl N f=dl N g:=oX fun k hk=>h k (fS.1 hk)
theorem BC {N:Nat} {p:Nat} (hv:p<N->g p=v) (h: ∀k,k<N->k≠p->g k=f k):(dl N f).set p v=dl N g:=by
 refine tL (by simp[dl]) fun k h1 h2=> ?_
 have hk:k<N:=by simpa[dl]using h2
 rw[List.getElem_set]
 by_cases hp:p=k
 ·subst hp;simp[dl,hv hk]
 ·rw[af hp];simp[dl,h k hk (fun e=>hp e.symm)]
def dX (f:Nat->Nat) (j i:Nat) (X:Int) (k:Nat):Nat:=if j<=k/\k<j+i then(vT X (k-j)).toNat else f k
theorem Hw (f:Nat->Nat) (j:Nat) (X:Int):dX f j 0 X=f:=by funext k;unfold dX;rw[af (by omega)]
theorem LJ {N:Nat} (f:Nat->Nat) (j i:Nat) (X:Int) (hv:(v:Int)=vT X i):(dl N (dX f j i X)).set (i+j) v=dl N (dX f j (i+1) X):=by
 refine BC (fun _=> ?_) fun k _ hk=> ?_
 ·unfold dX;rw[ah (by omega),show i+j-j=i by omega,<-hv,Int.toNat_natCast]
 ·unfold dX
  by_cases h:j<=k/\k<j+i
  ·rw[ah h,ah (by omega)]
  ·rw[af h,af (by omega)]
theorem RI (f:Nat->Nat) (j i:Nat) (X:Int):dX f j i X (i+j)=f (i+j):=by unfold dX;rw[af (by omega)]
theorem WW (f:Nat->Nat) {i:Nat} (X:Int) (h:i<n):((dX f j n X (i+j):Nat):Int)=vT X i:=by
 unfold dX;rw[ah (by omega),show i+j-j=i by omega]
 have:=(Hx X i).1;omega
theorem TH (f:Nat->Nat) (j n:Nat) (X:Int):dX f j n X (j+n)=f (j+n):=by unfold dX;rw[af (by omega)]
theorem Py {X:Nat} (hR:R<256^(j+n+1)) (hX:X<256^n) (k:Nat):(if k=j+n then 0 else dX (dv R) j n X k)=dv (X*256^j+R%256^j) k:=by
 have hj:0<256^j:=gT (by decide)
 have hlo:R%256^j<256^j:=aP _ hj
 by_cases hk:k<j
 ·rw[af (by omega),dX,af (by omega)]
  obtain⟨d,rfl⟩: ∃d,j=k+1+d:=⟨j-k-1,by omega⟩
  have e1:X*256^(k+1+d)+R%256^(k+1+d)=R%256^(k+1+d)+256^(k+1)*(256^d*X):=by
   rw[<-cA,<-cY,bU X];omega
  have e2 (Y:Nat):dv Y k=Y%256^(k+1)/256^k:=by
   unfold dv;rw[Nat.pow_succ,qA]
  rw[e2,e2,e1,wO,wE _ (CE 256 (by omega))]
 ·obtain⟨d,rfl⟩: ∃d,k=j+d:=⟨k-j,by omega⟩
  have e:dv (X*256^j+R%256^j) (j+d)=dv X d:=by
   unfold dv;rw[cY,<-eL,gn,bU X,nq _ _ hj,ir hlo,eK]
  rw[e]
  by_cases hd:d=n
  ·subst hd;rw[ah rfl,FP hX]
  ·rw[af (by omega)]
   unfold dX
   by_cases hdn:d<n
   ·rw[ah (by omega),Nat.add_sub_cancel_left,vU,Int.toNat_natCast]
   ·rw[af (by omega),FP (b9 hX (cM (by decide) (by omega))),FP (b9 hR (cM (by decide) (by omega)))]
theorem BM (h:a<9223372036854775808):me .i64 (a:Int) 255=((a%256:Nat):Int):=by
 unfold me;have h1:(BitVec.ofInt 64 (a:Int)&&&BitVec.ofInt 64 255).toNat=a%256:=by
  rw[BitVec.toNat_and,BitVec.ofInt_natCast,kj,show(BitVec.ofInt 64 255).toNat=2^8-1 from rfl,bw (by omega),IC]
 show IntKind.i64.wrap ((BitVec.ofInt 64 (a:Int)&&&BitVec.ofInt 64 255).toNat:Int)= _;rw[h1,IntWalk.i64_in _ (by omega)]
theorem Xb (ha:a<9223372036854775808) (hb:b<9223372036854775808):FW .i64 (a:Int) (b:Int)=((a|||b:Nat):Int):=by
 unfold FW;have h1:(BitVec.ofInt 64 (a:Int)|||BitVec.ofInt 64 (b:Int)).toNat=a|||b:=by
  rw[BitVec.toNat_or,BitVec.ofInt_natCast,BitVec.ofInt_natCast,kj,kj,bw (by omega),bw (by omega)]
 show IntKind.i64.wrap ((BitVec.ofInt 64 (a:Int)|||BitVec.ofInt 64 (b:Int)).toNat:Int)= _;have h2:a|||b<2^63:=Nat.or_lt_two_pow (by omega) (by omega)
 rw[h1,IntWalk.i64_in _ (by omega)]
theorem orS {a b s:Nat} (hs:s<=8) (ha:a<256) (hb:b<2^s):FW .i64 ((a*2^s:Nat):Int) (b:Int)=((a*2^s+b:Nat):Int):=by
 have h1:2^s<=2^8:=cM (by decide) hs
 have h2:a*2^s<=256*2^8:=j9 (j3 ha) h1;rw[Xb (by omega) (by omega),bU,<-IG hb]
theorem orL (ha:a<256) (hb:b<256):FW .i64 (b:Int) ((a*256:Nat):Int)=((b+a*256:Nat):Int):=by
 rw[Xb (by omega) (by omega),Nat.or_comm,bU,<-IG (i:=8) hb]
 omega
