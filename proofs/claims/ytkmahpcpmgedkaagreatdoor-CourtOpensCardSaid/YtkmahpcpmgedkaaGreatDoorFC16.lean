/- Part of the proof. -/
import Derived.Test.YtkmahpcpmgedkaaGreatDoorFC15
set_option linter.all false
namespace Go.Dom
variable {a b f k n o ver x:Nat} {el:Option TypeId}
theorem Wj (x:Int):IntKind.u8.wrap x=x%256:=qZ x
theorem Lm (x:Int):IntKind.u32.wrap x=x%4294967296:=IntKind.wrap_u32 x
theorem Ba (x:Int):IntKind.u64.wrap x=x%18446744073709551616:=by simp[IntKind.wrap,IntKind.bits,IntKind.signed]
theorem Cv (a b:Nat):(a:Int).fdiv (b:Int)=((a/b:Nat):Int):=by
 rw[Jg _ (by omega)];rfl
theorem QQ (a k:Nat):(a:Int).fdiv (2^k)=((a/2^k:Nat):Int):=by
 have:((2:Int)^k)=((2^k:Nat):Int):=by simp
 rw[this,Cv]
theorem ly (a:Nat):IntKind.u8.wrap (a:Int)=((UInt8.ofNat a).toNat:Int):=by
 rw[Wj,iE];omega
theorem gH (w a:Nat):BitVec.ofInt w (a:Int)=BitVec.ofNat w a:=BitVec.ofInt_natCast w a
theorem Pe (k:IntKind) (hk:k.signed=false) (x:Nat):k.wrap (x:Int)=((x%2^k.bits:Nat):Int):=by
 simp[IntKind.wrap,hk]
theorem UO (k:IntKind) (hk:k.signed=false) (ha:a<2^k.bits) (hb:b<2^k.bits):GC k (a:Int) (b:Int)=((a|||b:Nat):Int):=by
 rw[GC,gH,gH,BitVec.toNat_or,kV,kV,b9 ha,b9 hb,Pe k hk,b9 (Nat.or_lt_two_pow ha hb)]
theorem MZ (k:IntKind) (hk:k.signed=false) (ha:a<2^k.bits) (hb:b<2^k.bits):mT k (a:Int) (b:Int)=((a&&&b:Nat):Int):=by
 rw[mT,gH,gH,BitVec.toNat_and,kV,kV,b9 ha,b9 hb,Pe k hk,b9 (Nat.and_lt_two_pow _ hb)]
theorem S4 (k:IntKind) (hk:k.signed=false) (ha:a<2^k.bits) (hb:b<2^k.bits):EN k (a:Int) (b:Int)=((a^^^b:Nat):Int):=by
 rw[EN,gH,gH,BitVec.toNat_xor,kV,kV,b9 ha,b9 hb,Pe k hk,b9 (Nat.xor_lt_two_pow ha hb)]
theorem Fa {c:Nat} (h:c<2^k):x*2^k|||c=x*2^k+c:=by
 rw[<-Nat.shiftLeft_eq,Nat.shiftLeft_add_eq_or_of_lt h]
theorem LM (x k:Nat):x&&&(2^k-1)=x%2^k:=Je x k
theorem oe (l:List PV):chunk 1 l.length l=l:=by
 induction l with
 |nil=>rfl
 |cons x r ih=>simp[chunk,ih]
theorem F5 {hf:Nat->Option aF} {l:Bytes} {gr:Bool} {m:Nat} (hm:m=l.length) (h:hf n=some ⟨ver,aH l,gr,el⟩):
  view hf (f+2) (.rs n ver 0 m 1)=some (.sl (l.map u8)):=by
 subst hm;have h1:bz (view hf (f+1)) (aH l)=some (l.map u8):=by
  have:=fm hf f (l.map u8);rw[iV]at this;exact this
 have h2:(aH l).all AV.one=true:=by simp[aH,AV.one,PV.one,u8]
 have h3:chunk 1 l.length (l.map u8)=l.map u8:=by have:=oe (l.map u8);simpa using this
 simp[view,h,mN,h2,jP,h1,h3]
theorem Dt {hf:Nat->Option aF} {l:Bytes} {gr:Bool} {m:Nat} (hm:m=l.length) (h:hf n=some ⟨ver,aH l,gr,el⟩):
  aU hf (f+2) (.rs n ver 0 m 1)=[n]:=by
 subst hm;have h1:(aH l).flatMap (aU hf (f+1))=[]:=by
  unfold aH
  induction l with
  |nil=>rfl
  |cons x r ih=>simp_all[aU]
 simp[aU,h,jP,h1]
theorem ir {P:Program} [cG P] {Q:AX->AS->Prop} {nx:Nat} {bf:Option (List Nat)} {nn:Nat} {d:Option Nat} {ops:List kB} {s:AS} {tr:List (Nat×List Nat×List Nat)} {K:List Fr} {nm:Nat} {f:FuncId} {n ver m:Nat} {l:Bytes} {gr:Bool} {r:PV}
  (he:rv P f [.sl (l.map u8)] r) (hr:r.flat=true) (hg:ay s.h n=some ⟨ver,aH l,gr,el⟩) (hm:m=l.length) (hK:RW P Q nx bf nn ops (k+1) (s.tU d (.v r) []) (At bf k [n] [] tr) K):
  CR P Q nx bf nn nm (.v (.fn (.func f))) [.rs n ver 0 m 1] d ops k s tr K:=by
 refine o5 he ?_ hr ?_
 ·simp[bz,F5 hm hg]
 ·have:[AV.rs n ver 0 m 1].flatMap (aU (ay s.h) 9)=[n]:=by simp[Dt hm hg]
  rw[this];exact hK
theorem sT {l:Bytes} {x:Int} {c:UInt8} (h:o<l.length) (hx:x=(c.toNat:Int)):(aH l).take o++[.v (.i .u8 x)]++(aH l).drop (o+1)=aH (l.set o c):=by
 subst hx;unfold aH;rw[uh,ya];simp[h,u8]
theorem Xo (a n:Nat):(a:Int).fdiv (no_index (OfNat.ofNat n))=((a/(OfNat.ofNat n):Nat):Int):=Cv a n
theorem Yg (a b:Nat):(a:Int).tdiv (b:Int)=((a/b:Nat):Int):=rfl
theorem Yi (a b:Nat):(a:Int).tmod (b:Int)=((a%b:Nat):Int):=rfl
theorem Yf (a n:Nat):(a:Int).tdiv (no_index (OfNat.ofNat n))=((a/(OfNat.ofNat n):Nat):Int):=rfl
theorem Yh (a n:Nat):(a:Int).tmod (no_index (OfNat.ofNat n))=((a%(OfNat.ofNat n):Nat):Int):=rfl
theorem uw (a:Nat):IntKind.u64.wrap (a:Int)=((a%18446744073709551616:Nat):Int):=by rw[Ba];omega
theorem AJ (a b:Nat):IntKind.u64.wrap ((a:Int)*(b:Int))=((a*b%18446744073709551616:Nat):Int):=by rw[<-Int.natCast_mul,uw]
theorem tw (a n:Nat):IntKind.u64.wrap ((a:Int)*(no_index (OfNat.ofNat n)))=((a*(OfNat.ofNat n)%18446744073709551616:Nat):Int):=AJ a n
theorem zA (a n:Nat):IntKind.u64.wrap ((no_index (OfNat.ofNat n))*(a:Int))=(((OfNat.ofNat n)*a%18446744073709551616:Nat):Int):=AJ n a
theorem Hs (a k:Nat):IntKind.u64.wrap ((a:Int)*2^k)=((a*2^k%18446744073709551616:Nat):Int):=by
 have:=AJ a (2^k);simpa using this
theorem Ef (a b:Nat):IntKind.u64.wrap ((a:Int)+(b:Int))=(((a+b)%18446744073709551616:Nat):Int):=by rw[<-Int.natCast_add,uw]
theorem yo (a n:Nat):IntKind.u64.wrap ((a:Int)+(no_index (OfNat.ofNat n)))=(((a+(OfNat.ofNat n))%18446744073709551616:Nat):Int):=Ef a n
theorem Dh (a b:Nat):IntKind.u64.wrap ((a:Int)-(b:Int))=(((a+(18446744073709551616-b%18446744073709551616))%18446744073709551616:Nat):Int):=by rw[Ba];omega
theorem Ah (a n:Nat):IntKind.u64.wrap ((a:Int)-(no_index (OfNat.ofNat n)))=(((a+(18446744073709551616-(OfNat.ofNat n)%18446744073709551616))%18446744073709551616:Nat):Int):=Dh a n
theorem Ag (a n:Nat):IntKind.u64.wrap ((no_index (OfNat.ofNat n))-(a:Int))=((((OfNat.ofNat n)+(18446744073709551616-a%18446744073709551616))%18446744073709551616:Nat):Int):=Dh n a
theorem Zz (a b:Nat):mT .u64 (a:Int) (b:Int)=(((a%18446744073709551616)&&&(b%18446744073709551616):Nat):Int):=by
 have h:=MZ .u64 rfl (a:=a%18446744073709551616) (b:=b%18446744073709551616) (aL _ (by decide)) (aL _ (by decide))
 rw[<-h];unfold mT;simp only[gH];congr 4<;>(apply BitVec.eq_of_toNat_eq;simp[IntKind.bits])
theorem rP (a:Nat):mT .u64 (a:Int) 4294967295=((a%4294967296:Nat):Int):=by
 have h:=Zz a 4294967295;have e:(a%18446744073709551616)&&&(4294967295%18446744073709551616)=a%4294967296:=by
  have:=LM (a%18446744073709551616) 32;rw[show(4294967295%18446744073709551616:Nat)=2^32-1 from rfl,this];omega
 rw[e]at h;exact h
theorem aaA (h:x<256):IntKind.u8.wrap (x:Int)=(x:Int):=IntWalk.u8_in _ (by omega)
attribute [go_sem] Xo QQ Yg Yi Yf Yh
def aB (k:IntKind) (l:List Nat):List AV:=l.map fun x:Nat=> .v (.i k (x:Int))
theorem bj (k:IntKind) (l:List Nat):(aB k l).length=l.length:=by simp[aB]
theorem rZ (k:IntKind) (n:Nat):(List.replicate n [AV.v (PV.i k 0)]).flatten=aB k (List.replicate n 0):=by
 induction n with
 |zero=>rfl
 |succ n ih=>simp[List.replicate_succ,aB]at ih⊢
theorem dD {k:IntKind} {l:List Nat} {i:Nat} (h:i<l.length):(aB k l).getD i .u= .v (.i k (l.getD i 0:Nat)):=by
 simp[aB,br,h]
theorem eD {k:IntKind} {l:List Nat} {y:Int} (h:o<l.length) (hy:y=(x:Int)):(aB k l).take o++[.v (.i k y)]++(aB k l).drop (o+1)=aB k (l.set o x):=by
 subst hy;unfold aB;rw[uh,ya];simp[h]
theorem az (k:IntKind) (l:List Nat) (n:Nat):(∀y,y∈aB k l->y.bd n=true)=True:=by
 simp only[eq_iff_iff,iff_true];intro y hy;obtain⟨c,-,rfl⟩:=bm.1 hy;rfl
theorem Ft (f:Nat->Option Nat) (k:IntKind) (l:List Nat):AV.aZ.renL f (aB k l)=some (aB k l):=by
 induction l with
 |nil=>rfl
 |cons c l ih=>
  have:AV.aZ.renL f (AV.v (.i k c)::aB k l)=some (AV.v (.i k c)::aB k l):=by simp[AV.aZ.renL,AV.aZ,ih]
  exact this
structure Hid (p:Prop):Prop where
 v:p
end Go.Dom
namespace Go.Dom
open Go.RowKit
section
variable {P:Program} [cG P] {Q:AX->AS->Prop}
variable {k n nm nx:Nat} {tr:List (Nat×List Nat×List Nat)}
theorem cP {bf:Option (List Nat)} {d:Option Nat} {ops:List kB} {s:AS} {K:List Fr} {f:FuncId} {avs:List AV} {pvs:List PV} {r:PV} (he:rv P f pvs r) (hK:RW P Q nx bf n ops (k+1) (s.tU d (.v r) []) (At bf k [] [] tr) K) (ha:oi avs=some pvs:=by exact rfl):
  CR P Q nx bf n nm (.v (.fn (.func f))) avs d ops k s tr K:=jn he ha hK
theorem cV {bf:Option (List Nat)} {d:Option Nat} {ops:List kB} {s:AS} {K:List Fr} {f:FuncId} {avs:List AV} {pvs:List PV} {r:PV} (he:rv P f pvs r) (hK:RW P Q nx bf n ops (k+1) (s.tU d (.v r) []) (At bf k (avs.flatMap (aU (ay s.h) 9)) [] tr) K) (ha:bz (view (ay s.h) 9) avs=some pvs:=by exact rfl) (hr:r.flat=true:=by exact rfl):
  CR P Q nx bf n nm (.v (.fn (.func f))) avs d ops k s tr K:=o5 he ha hr hK
theorem bP:(∀(c:Bool) (κ:BK),c=true->BX P Q c κ=BX P Q true κ)/\(∀(c:Bool) (κ:BK),c=false->BX P Q c κ=BX P Q false κ)/\(∀(p:Prop) (κ:BK),p->PX P Q p κ=BX P Q true κ)/\(∀(p:Prop) (κ:BK),¬p->PX P Q p κ=BX P Q false κ):=
 ⟨fun _ _ h=>Pu h,fun _ _ h=>Pt h,fun _ _ h=>Lz h,fun _ _ h=>Ly h⟩
theorem pX {p:Prop} {κ:BK} (h1:p->BX P Q true κ) (h2: ¬p->BX P Q false κ):PX P Q p κ:=PX.mk h1 h2
theorem bX {c:Bool} {κ:BK} (h1:c=true->BX P Q true κ) (h2:c=false->BX P Q false κ):BX P Q c κ:=BX.mk h1 h2
end
theorem bW:(∀n:Int,-9223372036854775808<=n/\n<=9223372036854775807->IntKind.i64.wrap n=n)/\(∀n:Int,0<=n/\n<=18446744073709551615->IntKind.u64.wrap n=n):=⟨IntWalk.i64_in,IntWalk.u64_in⟩
theorem oD {p:Prop} (h:p:=by first|omega|decide):p:=h
theorem lE {t t':List (Nat×AV)} {h h':List (Nat×aF)} {n n':Nat} (hn:n<=n':=by first|decide|omega) (ht:dC t' n t:=by simp[dC,dA,aP,ay,AV.bd,AV.bd.bdL,u8,ar,au,az]) (hh:dA h' n h:=by simp[dC,dA,aP,ay,AV.bd,AV.bd.bdL,u8,ar,au,az]):(AS.mk t h n).Le ⟨t',h',n'⟩:=AS.Le.of hn ht hh
end Go.Dom
namespace Go.Dom
open Go.RowKit
class Br (g:Prop) (c d t f:outParam Prop):Prop where
 go:(c->t)->(d->f)->g
section
variable {P:Program} [cG P] {Q:AX->AS->Prop}
instance brP {p:Prop} {κ:BK}:Br (PX P Q p κ) p (¬p) (BX P Q true κ) (BX P Q false κ):=⟨pX⟩
instance brB {c:Bool} {κ:BK}:Br (BX P Q c κ) (c=true) (c=false) (BX P Q true κ) (BX P Q false κ):=⟨bX⟩
end
variable {A0 A1 A2 A3 A4 A5 A6 X Y p q:Prop}
theorem xX {g c d t f:Prop} [b:Br g c d t f] (h1:c->t) (h2:d->f):g:=b.go h1 h2
theorem oO (h:p:=by omega):p:=h
theorem oC (h:p:=by decide):p:=h
theorem oE (h:q) (e:p=q:=by first|(simp(disch:=first|assumption|omega) only[bP,bW]<;>rfl)|exact propext ⟨And.right,fun x=>And.intro oD x⟩|((fail_if_success apply xX);exact propext ⟨fun _=>trivial,fun _=>oD⟩)):p:=e▸h
theorem oT:True:=trivial
theorem lG {t t':List (Nat×AV)} {h h':List (Nat×aF)} {n n':Nat} (a:q) (hn:n<=n':=by first|decide|omega) (e:(dC t' n t/\dA h' n h)=q:=by simp[dC,dA,aP,ay,AV.bd,AV.bd.bdL,u8,ar,au,az]<;>rfl):(AS.mk t h n).Le ⟨t',h',n'⟩:=AS.Le.of hn (e▸a:dC t' n t/\dA h' n h).1 (e▸a:dC t' n t/\dA h' n h).2
structure Wr (Y:Prop):Prop where
 go:Y
theorem lI {P:Program} [cG P] {Q:AX->AS->Prop} {a:SC} {K:List Fr} {N:Nat} {s:AS} (h:ym P Q a K N s):ym P Q a K N s:=h
theorem aN {A B:Prop} (a:A) (b:B):A/\B:=⟨a,b⟩
theorem z0 (h:p:=by
 repeat' first|simp only[go_sem,seval]|refine oE ?_|apply xX<;>intro hc
 all_goals rfl):p:=h
theorem z1 (a0:A0) (h:A0->p:=by
 intro K0;repeat' first|simp only[go_sem,seval]|refine cP K0 ?_|refine oE ?_|apply xX<;>intro hc
 all_goals rfl):p:=h a0
theorem z2 (a0:A0) (a1:A1) (h:A0->A1->p:=by
 intro K0 K1;repeat' first|simp only[go_sem,seval]|refine cP K0 ?_|refine cP K1 ?_|refine oE ?_|apply xX<;>intro hc
 all_goals rfl):p:=h a0 a1
theorem z3 (a0:A0) (a1:A1) (a2:A2) (h:A0->A1->A2->p:=by
 intro K0 K1 K2;repeat' first|simp only[go_sem,seval]|refine cP K0 ?_|refine cP K1 ?_|refine cP K2 ?_|refine oE ?_|apply xX<;>intro hc
 all_goals rfl):p:=h a0 a1 a2
theorem z4 (a0:A0) (a1:A1) (a2:A2) (a3:A3) (h:A0->A1->A2->A3->p:=by
 intro K0 K1 K2 K3;repeat' first|simp only[go_sem,seval]|refine cP K0 ?_|refine cP K1 ?_|refine cP K2 ?_|refine cP K3 ?_|refine oE ?_|apply xX<;>intro hc
 all_goals rfl):p:=h a0 a1 a2 a3
theorem z5 (a0:A0) (a1:A1) (a2:A2) (a3:A3) (a4:A4) (h:A0->A1->A2->A3->A4->p:=by
 intro K0 K1 K2 K3 K4;repeat' first|simp only[go_sem,seval]|refine cP K0 ?_|refine cP K1 ?_|refine cP K2 ?_|refine cP K3 ?_|refine cP K4 ?_|refine oE ?_|apply xX<;>intro hc
 all_goals rfl):p:=h a0 a1 a2 a3 a4
theorem z6 (a0:A0) (a1:A1) (a2:A2) (a3:A3) (a4:A4) (a5:A5) (h:A0->A1->A2->A3->A4->A5->p:=by
 intro K0 K1 K2 K3 K4 K5;repeat' first|simp only[go_sem,seval]|refine cP K0 ?_|refine cP K1 ?_|refine cP K2 ?_|refine cP K3 ?_|refine cP K4 ?_|refine cP K5 ?_|refine oE ?_|apply xX<;>intro hc
 all_goals rfl):p:=h a0 a1 a2 a3 a4 a5
theorem z7 (a0:A0) (a1:A1) (a2:A2) (a3:A3) (a4:A4) (a5:A5) (a6:A6) (h:A0->A1->A2->A3->A4->A5->A6->p:=by
 intro K0 K1 K2 K3 K4 K5 K6;repeat' first|simp only[go_sem,seval]|refine cP K0 ?_|refine cP K1 ?_|refine cP K2 ?_|refine cP K3 ?_|refine cP K4 ?_|refine cP K5 ?_|refine cP K6 ?_|refine oE ?_|apply xX<;>intro hc
 all_goals rfl):p:=h a0 a1 a2 a3 a4 a5 a6
theorem SA (h:p:=by
 repeat' first|simp only[go_sem,seval]|refine ai ?_|refine oE ?_|apply xX<;>intro hc
 all_goals rfl):p:=h
theorem WC (a0:A0) (h:A0->p:=by
 intro K0;repeat' first|simp only[go_sem,seval]|refine cP K0 ?_|refine ai ?_|refine oE ?_|apply xX<;>intro hc
 all_goals rfl):p:=h a0
theorem Ps (a0:A0) (a1:A1) (h:A0->A1->p:=by
 intro K0 K1;repeat' first|simp only[go_sem,seval]|refine cP K0 ?_|refine cP K1 ?_|refine ai ?_|refine oE ?_|apply xX<;>intro hc
 all_goals rfl):p:=h a0 a1
theorem Zi (a0:A0) (a1:A1) (a2:A2) (h:A0->A1->A2->p:=by
 intro K0 K1 K2;repeat' first|simp only[go_sem,seval]|refine cP K0 ?_|refine cP K1 ?_|refine cP K2 ?_|refine ai ?_|refine oE ?_|apply xX<;>intro hc
 all_goals rfl):p:=h a0 a1 a2
theorem Y7 (a0:A0) (a1:A1) (a2:A2) (a3:A3) (h:A0->A1->A2->A3->p:=by
 intro K0 K1 K2 K3;repeat' first|simp only[go_sem,seval]|refine cP K0 ?_|refine cP K1 ?_|refine cP K2 ?_|refine cP K3 ?_|refine ai ?_|refine oE ?_|apply xX<;>intro hc
 all_goals rfl):p:=h a0 a1 a2 a3
theorem zu5 (a0:A0) (a1:A1) (a2:A2) (a3:A3) (a4:A4) (h:A0->A1->A2->A3->A4->p:=by
 intro K0 K1 K2 K3 K4;repeat' first|simp only[go_sem,seval]|refine cP K0 ?_|refine cP K1 ?_|refine cP K2 ?_|refine cP K3 ?_|refine cP K4 ?_|refine ai ?_|refine oE ?_|apply xX<;>intro hc
 all_goals rfl):p:=h a0 a1 a2 a3 a4
theorem zg0 (y:Y) (h:Y->p:=by
 intro KY;repeat' first|simp only[go_sem,seval]|refine oE ?_|exact KY _ lE|apply xX<;>intro hc
 all_goals rfl):p:=h y
theorem zg2 (y:Y) (a0:A0) (a1:A1) (h:Y->A0->A1->p:=by
 intro KY K0 K1;repeat' first|simp only[go_sem,seval]|refine cP K0 ?_|refine cP K1 ?_|refine oE ?_|exact KY _ lE|apply xX<;>intro hc
 all_goals rfl):p:=h y a0 a1
theorem zg4 (y:Y) (a0:A0) (a1:A1) (a2:A2) (a3:A3) (h:Y->A0->A1->A2->A3->p:=by
 intro KY K0 K1 K2 K3;repeat' first|simp only[go_sem,seval]|refine cP K0 ?_|refine cP K1 ?_|refine cP K2 ?_|refine cP K3 ?_|refine oE ?_|exact KY _ lE|apply xX<;>intro hc
 all_goals rfl):p:=h y a0 a1 a2 a3
theorem Y6 (h:p:=by
 repeat' first|simp only[go_sem,seval]|refine oE ?_|apply xX<;>intro hc
 all_goals simp_all):p:=h
theorem Zh (a0:A0) (h:A0->p:=by
 intro K0;repeat' first|simp only[go_sem,seval]|refine cP K0 ?_|refine oE ?_|apply xX<;>intro hc
 all_goals (clear K0;simp_all)):p:=h a0
theorem Wq (a0:A0) (a1:A1) (h:A0->A1->p:=by
 intro K0 K1;repeat' first|simp only[go_sem,seval]|refine cP K0 ?_|refine cP K1 ?_|refine oE ?_|apply xX<;>intro hc
 all_goals (clear K0 K1;simp_all)):p:=h a0 a1
theorem zs4 (a0:A0) (a1:A1) (a2:A2) (a3:A3) (h:A0->A1->A2->A3->p:=by
 intro K0 K1 K2 K3;repeat' first|simp only[go_sem,seval]|refine cP K0 ?_|refine cP K1 ?_|refine cP K2 ?_|refine cP K3 ?_|refine oE ?_|apply xX<;>intro hc
 all_goals (clear K0 K1 K2 K3;simp_all)):p:=h a0 a1 a2 a3
theorem qB (y:Y) (h:Wr Y->p:=by
 intro KY;repeat' first|simp only[go_sem,seval]|exact lI KY.1|refine oE ?_|apply xX<;>intro hc
 all_goals rfl):p:=h ⟨y⟩
theorem WA (a0:A0) (y:Y) (h:Wr Y->A0->p:=by
 intro KY K0;repeat' first|simp only[go_sem,seval]|refine cP K0 ?_|exact lI KY.1|refine oE ?_|apply xX<;>intro hc
 all_goals rfl):p:=h ⟨y⟩ a0
theorem zl2 (a0:A0) (a1:A1) (y:Y) (h:Wr Y->A0->A1->p:=by
 intro KY K0 K1;repeat' first|simp only[go_sem,seval]|refine cP K0 ?_|refine cP K1 ?_|exact lI KY.1|refine oE ?_|apply xX<;>intro hc
 all_goals rfl):p:=h ⟨y⟩ a0 a1
theorem wV (y:Y) (h:Wr Y->p:=by
 intro KY;repeat' first|simp only[go_sem,seval]|refine oE ?_|apply xX<;>intro hc
 exact KY.1):p:=h ⟨y⟩
theorem Zj (a0:A0) (y:Y) (h:Wr Y->A0->p:=by
 intro KY K0;repeat' first|simp only[go_sem,seval]|refine cP K0 ?_|refine oE ?_|apply xX<;>intro hc
 exact KY.1):p:=h ⟨y⟩ a0
theorem gi (x:X) (h:(True->X)->p:=by
 intro KX;repeat' first|simp only[go_sem,seval,KX trivial]|refine oE ?_|apply xX<;>intro hc
 all_goals rfl):p:=h (fun _=>x)
theorem m9 (x:X) (a0:A0) (h:(True->X)->A0->p:=by
 intro KX K0;repeat' first|simp only[go_sem,seval,KX trivial]|refine cP K0 ?_|refine oE ?_|apply xX<;>intro hc
 all_goals rfl):p:=h (fun _=>x) a0
theorem B8 (x:X) (a0:A0) (a1:A1) (h:(True->X)->A0->A1->p:=by
 intro KX K0 K1;repeat' first|simp only[go_sem,seval,KX trivial]|refine cP K0 ?_|refine cP K1 ?_|refine oE ?_|apply xX<;>intro hc
 all_goals rfl):p:=h (fun _=>x) a0 a1
theorem wJ (x:X) (a0:A0) (a1:A1) (a2:A2) (a3:A3) (h:(True->X)->A0->A1->A2->A3->p:=by
 intro KX K0 K1 K2 K3;repeat' first|simp only[go_sem,seval,KX trivial]|refine cP K0 ?_|refine cP K1 ?_|refine cP K2 ?_|refine cP K3 ?_|refine oE ?_|apply xX<;>intro hc
 all_goals rfl):p:=h (fun _=>x) a0 a1 a2 a3
theorem Jl (x:X) (a0:A0) (a1:A1) (a2:A2) (a3:A3) (a4:A4) (a5:A5) (a6:A6) (h:(True->X)->A0->A1->A2->A3->A4->A5->A6->p:=by
 intro KX K0 K1 K2 K3 K4 K5 K6;repeat' first|simp only[go_sem,seval,KX trivial]|refine cP K0 ?_|refine cP K1 ?_|refine cP K2 ?_|refine cP K3 ?_|refine cP K4 ?_|refine cP K5 ?_|refine cP K6 ?_|refine oE ?_|apply xX<;>intro hc
 all_goals rfl):p:=h (fun _=>x) a0 a1 a2 a3 a4 a5 a6
theorem Wm {A7 A8 A9 A10 A11:Prop} (x:X) (a0:A0) (a1:A1) (a2:A2) (a3:A3) (a4:A4) (a5:A5) (a6:A6) (a7:A7) (a8:A8) (a9:A9) (a10:A10) (a11:A11) (h:(True->X)->A0->A1->A2->A3->A4->A5->A6->A7->A8->A9->A10->A11->p:=by
 intro KX K0 K1 K2 K3 K4 K5 K6 K7 K8 K9 K10 K11;repeat' first|simp only[go_sem,seval,KX trivial]|refine cP K0 ?_|refine cP K1 ?_|refine cP K2 ?_|refine cP K3 ?_|refine cP K4 ?_|refine cP K5 ?_|refine cP K6 ?_|refine cP K7 ?_|refine cP K8 ?_|refine cP K9 ?_|refine cP K10 ?_|refine cP K11 ?_|refine oE ?_|apply xX<;>intro hc
 all_goals rfl):p:=h (fun _=>x) a0 a1 a2 a3 a4 a5 a6 a7 a8 a9 a10 a11
theorem Wp (x:X) (h:(True->X)->p:=by
 intro KX;repeat' first|simp only[go_sem,seval,KX trivial]|refine ai ?_|refine oE ?_|apply xX<;>intro hc
 all_goals rfl):p:=h (fun _=>x)
theorem Sy (x:X) (a0:A0) (a1:A1) (a2:A2) (a3:A3) (h:(True->X)->A0->A1->A2->A3->p:=by
 intro KX K0 K1 K2 K3;repeat' first|simp only[go_sem,seval,KX trivial]|refine cP K0 ?_|refine cP K1 ?_|refine cP K2 ?_|refine cP K3 ?_|refine ai ?_|refine oE ?_|apply xX<;>intro hc
 all_goals rfl):p:=h (fun _=>x) a0 a1 a2 a3
theorem jN (x:X) (y:Y) (h:(True->X)->Y->p:=by
 intro KX KY;repeat' first|simp only[go_sem,seval,KX trivial]|refine oE ?_|exact KY _ lE|apply xX<;>intro hc
 all_goals rfl):p:=h (fun _=>x) y
theorem gV (x:X) (y:Y) (a0:A0) (h:(True->X)->Y->A0->p:=by
 intro KX KY K0;repeat' first|simp only[go_sem,seval,KX trivial]|refine cP K0 ?_|refine oE ?_|exact KY _ lE|apply xX<;>intro hc
 all_goals rfl):p:=h (fun _=>x) y a0
theorem vY (x:X) (y:Y) (a0:A0) (a1:A1) (h:(True->X)->Y->A0->A1->p:=by
 intro KX KY K0 K1;repeat' first|simp only[go_sem,seval,KX trivial]|refine cP K0 ?_|refine cP K1 ?_|refine oE ?_|exact KY _ lE|apply xX<;>intro hc
 all_goals rfl):p:=h (fun _=>x) y a0 a1
theorem aaB (x:X) (y:Y) (a0:A0) (a1:A1) (a2:A2) (a3:A3) (h:(True->X)->Y->A0->A1->A2->A3->p:=by
 intro KX KY K0 K1 K2 K3;repeat' first|simp only[go_sem,seval,KX trivial]|refine cP K0 ?_|refine cP K1 ?_|refine cP K2 ?_|refine cP K3 ?_|refine oE ?_|exact KY _ lE|apply xX<;>intro hc
 all_goals rfl):p:=h (fun _=>x) y a0 a1 a2 a3
theorem aaC (x:X) (a0:A0) (h:(True->X)->A0->p:=by
 intro KX K0;repeat' first|simp only[go_sem,seval,KX trivial]|refine cP K0 ?_|refine oE ?_|apply xX<;>intro hc
 all_goals (clear KX K0;simp_all)):p:=h (fun _=>x) a0
theorem Wn (x:X) (a0:A0) (a1:A1) (h:(True->X)->A0->A1->p:=by
 intro KX K0 K1;repeat' first|simp only[go_sem,seval,KX trivial]|refine cP K0 ?_|refine cP K1 ?_|refine oE ?_|apply xX<;>intro hc
 all_goals (clear KX K0 K1;simp_all)):p:=h (fun _=>x) a0 a1
theorem Wo (x:X) (a0:A0) (a1:A1) (a2:A2) (a3:A3) (h:(True->X)->A0->A1->A2->A3->p:=by
 intro KX K0 K1 K2 K3;repeat' first|simp only[go_sem,seval,KX trivial]|refine cP K0 ?_|refine cP K1 ?_|refine cP K2 ?_|refine cP K3 ?_|refine oE ?_|apply xX<;>intro hc
 all_goals (clear KX K0 K1 K2 K3;simp_all)):p:=h (fun _=>x) a0 a1 a2 a3
theorem Pl (x:X) (a0:A0) (a1:A1) (a2:A2) (a3:A3) (a4:A4) (a5:A5) (a6:A6) (h:(True->X)->A0->A1->A2->A3->A4->A5->A6->p:=by
 intro KX K0 K1 K2 K3 K4 K5 K6;repeat' first|simp only[go_sem,seval,KX trivial]|refine cP K0 ?_|refine cP K1 ?_|refine cP K2 ?_|refine cP K3 ?_|refine cP K4 ?_|refine cP K5 ?_|refine cP K6 ?_|refine oE ?_|apply xX<;>intro hc
 all_goals (clear KX K0 K1 K2 K3 K4 K5 K6;simp_all)):p:=h (fun _=>x) a0 a1 a2 a3 a4 a5 a6
theorem dH (x:X) (y:Y) (h:(True->X)->Wr Y->p:=by
 intro KX KY;repeat' first|simp only[go_sem,seval,KX trivial]|exact lI KY.1|refine oE ?_|apply xX<;>intro hc
 all_goals rfl):p:=h (fun _=>x) ⟨y⟩
theorem oZ (x:X) (a0:A0) (y:Y) (h:(True->X)->Wr Y->A0->p:=by
 intro KX KY K0;repeat' first|simp only[go_sem,seval,KX trivial]|refine cP K0 ?_|exact lI KY.1|refine oE ?_|apply xX<;>intro hc
 all_goals rfl):p:=h (fun _=>x) ⟨y⟩ a0
theorem HH (x:X) (a0:A0) (a1:A1) (y:Y) (h:(True->X)->Wr Y->A0->A1->p:=by
 intro KX KY K0 K1;repeat' first|simp only[go_sem,seval,KX trivial]|refine cP K0 ?_|refine cP K1 ?_|exact lI KY.1|refine oE ?_|apply xX<;>intro hc
 all_goals rfl):p:=h (fun _=>x) ⟨y⟩ a0 a1
theorem uE (x:X) (a0:A0) (a1:A1) (a2:A2) (a3:A3) (y:Y) (h:(True->X)->Wr Y->A0->A1->A2->A3->p:=by
 intro KX KY K0 K1 K2 K3;repeat' first|simp only[go_sem,seval,KX trivial]|refine cP K0 ?_|refine cP K1 ?_|refine cP K2 ?_|refine cP K3 ?_|exact lI KY.1|refine oE ?_|apply xX<;>intro hc
 all_goals rfl):p:=h (fun _=>x) ⟨y⟩ a0 a1 a2 a3
theorem HI (x:X) (a0:A0) (a1:A1) (a2:A2) (a3:A3) (a4:A4) (a5:A5) (a6:A6) (y:Y) (h:(True->X)->Wr Y->A0->A1->A2->A3->A4->A5->A6->p:=by
 intro KX KY K0 K1 K2 K3 K4 K5 K6;repeat' first|simp only[go_sem,seval,KX trivial]|refine cP K0 ?_|refine cP K1 ?_|refine cP K2 ?_|refine cP K3 ?_|refine cP K4 ?_|refine cP K5 ?_|refine cP K6 ?_|exact lI KY.1|refine oE ?_|apply xX<;>intro hc
 all_goals rfl):p:=h (fun _=>x) ⟨y⟩ a0 a1 a2 a3 a4 a5 a6
theorem dI (x:X) (y:Y) (h:(True->X)->Wr Y->p:=by
 intro KX KY;repeat' first|simp only[go_sem,seval,KX trivial]|refine oE ?_|apply xX<;>intro hc
 exact KY.1):p:=h (fun _=>x) ⟨y⟩
theorem jm (x:X) (a0:A0) (y:Y) (h:(True->X)->Wr Y->A0->p:=by
 intro KX KY K0;repeat' first|simp only[go_sem,seval,KX trivial]|refine cP K0 ?_|refine oE ?_|apply xX<;>intro hc
 exact KY.1):p:=h (fun _=>x) ⟨y⟩ a0
theorem qC (x:X) (a0:A0) (a1:A1) (y:Y) (h:(True->X)->Wr Y->A0->A1->p:=by
 intro KX KY K0 K1;repeat' first|simp only[go_sem,seval,KX trivial]|refine cP K0 ?_|refine cP K1 ?_|refine oE ?_|apply xX<;>intro hc
 exact KY.1):p:=h (fun _=>x) ⟨y⟩ a0 a1
theorem vZ (x:X) (a0:A0) (a1:A1) (a2:A2) (a3:A3) (y:Y) (h:(True->X)->Wr Y->A0->A1->A2->A3->p:=by
 intro KX KY K0 K1 K2 K3;repeat' first|simp only[go_sem,seval,KX trivial]|refine cP K0 ?_|refine cP K1 ?_|refine cP K2 ?_|refine cP K3 ?_|refine oE ?_|apply xX<;>intro hc
 exact KY.1):p:=h (fun _=>x) ⟨y⟩ a0 a1 a2 a3
theorem Sz (x:X) (a0:A0) (a1:A1) (a2:A2) (a3:A3) (a4:A4) (a5:A5) (a6:A6) (y:Y) (h:(True->X)->Wr Y->A0->A1->A2->A3->A4->A5->A6->p:=by
 intro KX KY K0 K1 K2 K3 K4 K5 K6;repeat' first|simp only[go_sem,seval,KX trivial]|refine cP K0 ?_|refine cP K1 ?_|refine cP K2 ?_|refine cP K3 ?_|refine cP K4 ?_|refine cP K5 ?_|refine cP K6 ?_|refine oE ?_|apply xX<;>intro hc
 exact KY.1):p:=h (fun _=>x) ⟨y⟩ a0 a1 a2 a3 a4 a5 a6
end Go.Dom
namespace Go.Dom
variable {a b:Bytes} {i k n:Nat}
def num:Bytes->Nat
 |[]=>0
 |x::r=>x.toNat*256^r.length+num r
def be:Nat->Nat->Bytes
 |0,_=>[]
 |k+1,n=>UInt8.ofNat (n/256^k)::be k n
def fF:Bytes->Bytes
 |[]=>[]
 |x::r=>if x=0 then fF r else x::r
def aY (n:Nat):Bytes:=fF (be (n.log2/8+1) n)
def aa (a:Bytes):Bool:=decide (a.length<=128)&&(a.length==0||a.headD 0 !=0)
theorem cH (k n:Nat):(be k n).length=k:=by induction k<;>simp_all[be]
theorem jC (k:Nat):0<256^k:=ik (by decide)
theorem cC (a:Bytes):num a<256^a.length:=by
 induction a with
 |nil=>decide
 |cons x r ih=>
  simp only[num,List.length_cons,Nat.pow_succ];have:=x.toNat_lt;have h2:x.toNat*256^r.length<=255*256^r.length:=dw _ (by omega)
  omega
theorem zC (a b:Bytes):num (a++b)=num a*256^b.length+num b:=by
 induction a with
 |nil=>simp[num]
 |cons x r ih=>simp only[List.cons_append,num,ih,bT,cY,dk,cM];omega
theorem E4 (a:Bytes) (x:UInt8):num (a++[x])=num a*256+x.toNat:=by simp[zC,num]
theorem zD (k n:Nat):num (be k n)=n%256^k:=by
 induction k with
 |zero=>simp[be,num,mw]
 |succ k ih=>
  simp only[be,num,cH,ih,iE];have h:=pF (x:=n) (a:=256^k) (b:=256);rw[show(256:Nat)^(k+1)=256^k*256 from Nat.pow_succ ..,h,bO (256^k)]
  show n/256^k%256*256^k+n%256^k= _;omega
theorem Cd (a:Bytes):be a.length (num a)=a:=by
 induction a with
 |nil=>rfl
 |cons x r ih=>
  have h:num (x::r)=x.toNat*256^r.length+num r:=rfl;have h1:=cC r;have h2:num (x::r)/256^r.length=x.toNat:=by
   rw[h,bO,xW (jC _),iB h1];omega
  have h3: ∀k m m',m%256^k=m'%256^k->be k m=be k m':=by
   intro k
   induction k with
   |zero=>intros;rfl
   |succ k ih=>
    intro m m' hm;have e1:m/256^k%256=m'/256^k%256:=by
     rw[Nat.pow_succ]at hm;have a1:=pF (x:=m) (a:=256^k) (b:=256);have a2:=pF (x:=m') (a:=256^k) (b:=256);have b1:m%(256^k*256)/256^k=m/256^k%256:=by rw[rf]
     have b2:m'%(256^k*256)/256^k=m'/256^k%256:=by rw[rf]
     rw[<-b1,<-b2,hm]
    have e2:m%256^k=m'%256^k:=by
     have a1:m%256^(k+1)%256^k=m%256^k:=uz _ (Dz 256 (Nat.le_succ k));have a2:m'%256^(k+1)%256^k=m'%256^k:=uz _ (Dz 256 (Nat.le_succ k));rw[<-a1,<-a2,hm]
    simp only[be,ih m m' e2];congr 1;apply kz.1;simpa using e1
  simp only[List.length_cons,be,h2];rw[show UInt8.ofNat x.toNat=x by simp,h3 r.length (num (x::r)) (num r) (by rw[h,Nat.mul_add_mod_self_right]),ih]
theorem sD (a:Bytes): ∃k,a=List.replicate k 0++fF a/\(fF a=[]\/(fF a).headD 0≠0):=by
 induction a with
 |nil=>exact⟨0,rfl, .inl rfl⟩
 |cons x r ih=>
  simp only[fF];split
  ·rename_i h;subst h;obtain⟨k,e,h⟩:=ih;exact⟨k+1,by simp[List.replicate_succ,<-e],h⟩
  ·rename_i h;exact⟨0,rfl, .inr h⟩
theorem Kk (k:Nat) (a:Bytes):num (List.replicate k 0++a)=num a:=by
 induction k with
 |zero=>rfl
 |succ k ih=>simp[List.replicate_succ,num,ih]
theorem zE (a:Bytes):num (fF a)=num a:=by
 obtain⟨k,e,-⟩:=sD a
 conv=>rhs;rw[e,Kk]
theorem O5 (a:Bytes):(fF a).length<=a.length:=by
 obtain⟨k,e,-⟩:=sD a;have:=congrArg List.length e;simp at this;omega
def Canon (a:Bytes):Prop:=a=[]\/a.headD 0≠0
theorem sE (a:Bytes):Canon (fF a):=by obtain⟨k,-,h⟩:=sD a;exact h
theorem oB (h:Canon a) (hne:a≠[]):256^(a.length-1)<=num a:=by
 cases a with
 |nil=>exact aM rfl hne
 |cons x r=>
  rcases h with h|h
  ·cases h
  ·have hx:0<x.toNat:=by
    rcases kf x.toNat with e|e
    ·exact aM (kz.1 e:x=0) h
    ·exact e
   simp only[num,List.length_cons,iO];have:=dw (256^r.length) hx;omega
theorem uR (ha:Canon a) (hb:Canon b) (h:num a=num b):a=b:=by
 have key: ∀{a b:Bytes},Canon a->Canon b->num a=num b->a.length<=b.length:=by
  intro a b ha hb h
  by_cases hne:a=[]
  ·subst hne;simp
  ·have h1:=oB ha hne;have h2:=cC b;have h3:256^(a.length-1)<256^b.length:=by omega
   have:=(rh (by decide:1<256)).1 h3
   omega
 have hl:a.length=b.length:=DC (key ha hb h) (key hb ha h.symm);have h1:=Cd a;rw[h,hl,Cd b]at h1;exact h1.symm
theorem Rc (n:Nat):n<256^(n.log2/8+1):=by
 have h1:n<2^(n.log2+1):=ui;have h2:(256:Nat)^(n.log2/8+1)=2^(8*(n.log2/8+1)):=by rw[ky]
 rw[h2];exact bE h1 (dc (by decide) (by omega))
theorem aQ (n:Nat):num (aY n)=n:=by
 rw[aY,zE,zD];exact b9 (Rc n)
theorem gZ (n:Nat):Canon (aY n):=sE _
theorem HZ (h:Canon a):aY (num a)=a:=uR (gZ _) h (aQ _)
theorem O4 (a:Bytes):fF a=aY (num a):=uR (sE _) (gZ _) (by rw[zE,aQ])
theorem j9 (h:n<256^k):fF (be k n)=aY n:=by rw[O4,zD,b9 h]
theorem Me:aY 0=[]:=by decide
theorem o6:(aY n).length<=k↔n<256^k:=by
 constructor
 ·intro h;have:=cC (aY n);rw[aQ]at this;exact bE this (dc (by decide) h)
 ·intro h
  by_cases hne:aY n=[]
  ·simp[hne]
  ·have h1:=oB (gZ n) hne;rw[aQ]at h1;have h3:256^((aY n).length-1)<256^k:=by omega
   have:=(rh (by decide:1<256)).1 h3
   omega
theorem HY {m n:Nat}:aY m=aY n↔m=n:=⟨fun h=>by rw[<-aQ m,h,aQ],fun h=>by rw[h]⟩
theorem iJ:aY n=[]↔n=0:=by rw[<-Me];exact HY
theorem sF (a:Bytes):aa a=true↔a.length<=128/\Canon a:=by
 unfold aa Canon
 cases a with
 |nil=>simp
 |cons x r=>simp
theorem bJ (h:aa a=true):Canon a:=((sF a).1 h).2
theorem iu (h:aa a=true):aY (num a)=a:=HZ (bJ h)
theorem cW (h:aa a=true):a.length<=128:=((sF a).1 h).1
theorem vw (h:aa a=true):num a<256^128:=bE (cC a) (dc (by decide) (cW h))
theorem qT (h:n<256^128):aa (aY n)=true:=(sF _).2 ⟨o6.2 h,gZ n⟩
theorem tB (ha:aa a=true):num a=0↔a=[]:=by
 constructor
 ·intro h;exact uR (bJ ha) (.inl rfl) h
 ·intro h;subst h;rfl
theorem vu (a:Bytes) (h:i<a.length):(a.getD (a.length-1-i) 0).toNat=num a/256^i%256:=by
 have e:a=a.take (a.length-1-i)++(a.getD (a.length-1-i) 0::a.drop (a.length-i)):=by
  have h2:a.length-1-i<a.length:=by omega
  conv=>lhs;rw[<-ug (a.length-1-i) a,jw h2]
  rw[show a.length-1-i+1=a.length-i by omega]
  simp[br,h2]
 have hl:(a.drop (a.length-i)).length=i:=by simp;omega
 have hn:=zC (a.take (a.length-1-i)) (a.getD (a.length-1-i) 0::a.drop (a.length-i));rw[<-e]at hn;simp only[num,List.length_cons,hl]at hn;have hlt:=cC (a.drop (a.length-i));rw[hl]at hlt;generalize (a.getD (a.length-1-i) 0)=c at hn⊢;have hc:=c.toNat_lt;have:num a=(num (a.take (a.length-1-i))*256+c.toNat)*256^i+num (a.drop (a.length-i)):=by
  rw[hn,Nat.pow_succ,dk,cM,bO 256];omega
 rw[this,bO _ (256^i),xW (jC _),iB hlt];omega
theorem sk (a:Bytes) (h:a.length<=i):num a/256^i=0:=iB (bE (cC a) (dc (by decide) h))
theorem wC (x y:UInt8) {r s:Bytes} (hl:r.length=s.length):num (x::r)<num (y::s)↔x.toNat<y.toNat\/(x=y/\num r<num s):=by
 simp only[num,hl];have h1:=cC r;have h2:=cC s;rw[hl]at h1;generalize 256^s.length=p at h1 h2⊢;rcases DO x.toNat y.toNat with h|h|h
 ·have:=dw p (show x.toNat+1<=y.toNat from h)
  rw[dk]at this;simp only[h,true_or,iff_true];omega
 ·have:x=y:=kz.1 h;subst this;simp
 ·have:=dw p (show y.toNat+1<=x.toNat from h)
  rw[dk]at this;have hne:x≠y:=fun e=>by subst e;omega
  simp only[hne,false_and,or_false];omega
theorem iK (hb:Canon b) (h:a.length<b.length):num a<num b:=by
 have h1:=cC a;have h2:=oB hb (by intro e;subst e;simp at h)
 exact bE h1 (fZ (dc (by decide) (by omega)) h2)
theorem Jb {α:Type} (l m:List α) (x y:α):(l++x::m).set l.length y=l++y::m:=by simp
theorem HG (k:Nat):(List.replicate (k+1) (0:UInt8))=List.replicate k 0++[0]:=by rw[Dy]
theorem iy (hi:i<n) (c:UInt8) (b:Bytes):(List.replicate (n-i) (0:UInt8)++b).set (n-1-i) c=List.replicate (n-(i+1)) 0++(c::b):=by
 obtain⟨k,rfl⟩: ∃k,n=k+i+1:=⟨n-i-1,by omega⟩
 rw[show k+i+1-i=k+1 by omega,show k+i+1-1-i=k by omega,show k+i+1-(i+1)=k by omega,HG]
 have:=Jb (List.replicate k (0:UInt8)) b 0 c;simpa using this
end Go.Dom
namespace Go.Dom
open Go
variable {R a b j k n v:Nat} {f g:Nat->Nat}
def dv (x k:Nat):Nat:=x/256^k%256
def wZ (x:Int) (k:Nat):Int:=x/256^k%256
theorem w9 (x k:Nat):wZ x k=(dv x k:Nat):=by
 unfold wZ dv;rw[Int.natCast_emod,Int.natCast_ediv,Int.natCast_pow];rfl
theorem Ib (x:Int) (k:Nat):0<=wZ x k/\wZ x k<256:=⟨gU _ (by decide),ig _ (by decide)⟩
theorem Ku (i:Nat):(0:Int)<256^i:=Int.pow_pos (by decide)
def cy (U V a:Int) (i:Nat):Int:=(U%256^i+a*(V%256^i))/256^i
theorem H9 (U V a:Int):cy U V a 0=0:=by simp[cy,Int.emod_one]
theorem Gw (U V a:Int) (i:Nat):(U+a*V)/256^i=cy U V a i+(U/256^i+a*(V/256^i)):=by
 have hB:=Ku i;unfold cy;have e1:=nT U (256^i);have e2:=nT V (256^i);have e:U+a*V=(U%256^i+a*(V%256^i))+256^i*(U/256^i+a*(V/256^i)):=by
  rw[mz,D0 (256^i) a];have:a*V=a*(V%256^i)+a*(256^i*(V/256^i)):=by rw[<-mz,e2]
  omega
 rw[e,x8 _ _ (Int.ne_of_gt hB)]
theorem QE (U V a:Int) (i:Nat):cy U V a (i+1)=(wZ U i+a*wZ V i+cy U V a i)/256:=by
 have hB:=Ku i;have h (W:Int):W%256^(i+1)=W%256^i+256^i*wZ W i:=by
  unfold wZ;refine((DQ (q:=W/256^i/256) (Ku (i+1))).2 ⟨?_,?_,?_⟩).2
  ·have e1:=nT W (256^i);have e2:=nT (W/256^i) 256;have:256^i*(W/256^i)=256^i*(W/256^i%256)+256^i*(256*(W/256^i/256)):=by rw[<-mz,e2]
   rw[Int.pow_succ,mq];omega
  ·have:=gU W (Int.ne_of_gt hB);have:=Int.mul_nonneg (Int.le_of_lt hB) (gU (W/256^i) (by decide:(256:Int)≠0))
   omega
  ·have h1:=ig W hB;have h2:=ig (W/256^i) (by decide:(0:Int)<256)
   have h3:256^i*(W/256^i%256)<=256^i*255:=Int.mul_le_mul_of_nonneg_left (by omega) (Int.le_of_lt hB)
   rw[Int.pow_succ];omega
 have e:U%256^(i+1)+a*(V%256^(i+1))=(U%256^i+a*(V%256^i))+256^i*(wZ U i+a*wZ V i):=by
  rw[h U,h V,mz,mz,D0 a];omega
 show(_+ _)/ _= _;rw[e,Int.pow_succ,<-Int.ediv_ediv_of_nonneg (Int.le_of_lt hB),x8 _ _ (Int.ne_of_gt hB)];congr 1;unfold cy;omega
theorem H8 (U V a:Int) (i:Nat):wZ U i+a*wZ V i+cy U V a i=256*cy U V a (i+1)+wZ (U+a*V) i:=by
 have h1:=QE U V a i;have h2:=Gw U V a i;have e:wZ (U+a*V) i=(wZ U i+a*wZ V i+cy U V a i)%256:=by
  unfold wZ;rw[h2];have e1:=nT (U/256^i) 256;have e2:=nT (V/256^i) 256;have e3:a*(V/256^i)=a*(V/256^i%256)+256*(a*(V/256^i/256)):=by
   rw[D0,<-mz,e2]
  have:cy U V a i+(U/256^i+a*(V/256^i))=(U/256^i%256+a*(V/256^i%256)+cy U V a i)+256*(U/256^i/256+a*(V/256^i/256)):=by omega
  rw[this,rj]
 rw[h1,e];omega
theorem MV {D:Nat} (hn:1<=n) (h1:128*256^(n-1)<=D) (h2:D<256^n) (hR:R<256*D):
  128<=dv D (n-1)/\R/D<=(dv R n*256+dv R (n-1))/dv D (n-1)/\R/D<=255:=by
 obtain⟨k,rfl⟩: ∃k,n=k+1:=⟨n-1,by omega⟩
 rw[iO]at h1⊢;have hB:0<256^k:=ik (by decide)
 rw[Nat.pow_succ]at h2;have hD0:0<D:=by omega
 have v1:D/256^k<256:=by rw[iH hB];omega
 have v2:128<=D/256^k:=(uo hB).2 h1;have v3:dv D k=D/256^k:=b9 v1;have u1:R/256^k<65536:=by rw[iH hB];omega
 have u3:dv R (k+1)*256+dv R k=R/256^k:=by
  unfold dv;rw[Nat.pow_succ,<-eS];clear v1 v2 v3 h1 h2;generalize R/256^k=y at*;omega
 rw[v3,u3];have hRD:R/D<256:=by
  rw[iH hD0];exact hR
 refine⟨v2,?_,by omega⟩
 rw[uo (by omega),uo hB,cM]
 exact fZ (jt _ (rk _ _)) (rk _ _)
theorem Ew (x i s:Nat) (hs:s<=7):dv (x*2^s) (i+1)=dv x (i+1)*2^s%256+dv x i/2^(8-s):=by
 unfold dv;have hB:0<256^i:=ik (by decide)
 obtain⟨y,hy⟩: ∃y,y=x/256^i:=⟨_,rfl⟩;obtain⟨e,he,hlt⟩: ∃e,x*2^s/256^i=y*2^s+e/\e<2^s:=by
  refine⟨x%256^i*2^s/256^i,?_,?_⟩
  ·have:x*2^s=x%256^i*2^s+256^i*(y*2^s):=by
    rw[<-cM,<-dk,hy,Nat.mod_add_div]
   rw[this,nV _ _ hB,ij]
  ·rw[iH hB,bO];exact Jh (aL _ hB) (ik (by decide))
 rw[Nat.pow_succ,<-eS,<-eS,he,<-hy];clear hy he hB;obtain rfl|rfl|rfl|rfl|rfl|rfl|rfl|rfl:s=0\/s=1\/s=2\/s=3\/s=4\/s=5\/s=6\/s=7:=by omega
 all_goals simp only[Nat.pow_zero,Nat.reducePow,Nat.reduceSub]at hlt⊢;omega
theorem Bo (x s:Nat):dv (x*2^s) 0=dv x 0*2^s%256:=by
 unfold dv;rw[Nat.pow_zero,iW,iW,jM]
theorem GA (x i s:Nat) (hs:s<=7):(dv x i+dv x (i+1)*256)/2^s%256=dv (x/2^s) i:=by
 unfold dv;rw[eS,bO (2^s),<-eS,Nat.pow_succ,<-eS];generalize x/256^i=y;obtain rfl|rfl|rfl|rfl|rfl|rfl|rfl|rfl:s=0\/s=1\/s=2\/s=3\/s=4\/s=5\/s=6\/s=7:=by omega
 all_goals simp only[Nat.pow_zero,Nat.reducePow];omega
theorem pT (x k:Nat):dv x k<256:=aL _ (by decide)
theorem Gz {x:Nat} (h:x<256^k):dv x k=0:=by unfold dv;rw[iB h]
def dl (N:Nat) (f:Nat->Nat):List Nat:=(List.range N).map f
theorem mQ (N:Nat) (f:Nat->Nat):(dl N f).length=N:=by simp[dl]
theorem uV {N:Nat} (h:k<N):(dl N f).getD k 0=f k:=by simp[dl,br,h]
theorem yK {N:Nat} (h: ∀k,k<N->f k=g k):dl N f=dl N g:=nS fun k hk=>h k (dW.1 hk)
theorem Cs {N:Nat} {p:Nat} (hv:p<N->g p=v) (h: ∀k,k<N->k≠p->g k=f k):(dl N f).set p v=dl N g:=by
 refine um (by simp[dl]) fun k h1 h2=> ?_
 have hk:k<N:=by simpa[dl]using h2
 rw[List.getElem_set]
 by_cases hp:p=k
 ·subst hp;simp[dl,hv hk]
 ·rw[ae hp];simp[dl,h k hk (fun e=>hp e.symm)]
def dX (f:Nat->Nat) (j i:Nat) (X:Int) (k:Nat):Nat:=if j<=k/\k<j+i then(wZ X (k-j)).toNat else f k
theorem Ia (f:Nat->Nat) (j:Nat) (X:Int):dX f j 0 X=f:=by funext k;unfold dX;rw[ae (by omega)]
theorem Mu {N:Nat} (f:Nat->Nat) (j i:Nat) (X:Int) (hv:(v:Int)=wZ X i):(dl N (dX f j i X)).set (i+j) v=dl N (dX f j (i+1) X):=by
 refine Cs (fun _=> ?_) fun k _ hk=> ?_
 ·unfold dX;rw[ah (by omega),show i+j-j=i by omega,<-hv,Int.toNat_natCast]
 ·unfold dX
  by_cases h:j<=k/\k<j+i
  ·rw[ah h,ah (by omega)]
  ·rw[ae h,ae (by omega)]
theorem SV (f:Nat->Nat) (j i:Nat) (X:Int):dX f j i X (i+j)=f (i+j):=by unfold dX;rw[ae (by omega)]
theorem Xn (f:Nat->Nat) {i:Nat} (X:Int) (h:i<n):((dX f j n X (i+j):Nat):Int)=wZ X i:=by
 unfold dX;rw[ah (by omega),show i+j-j=i by omega]
 have:=(Ib X i).1;omega
theorem UG (f:Nat->Nat) (j n:Nat) (X:Int):dX f j n X (j+n)=f (j+n):=by unfold dX;rw[ae (by omega)]
theorem QG {X:Nat} (hR:R<256^(j+n+1)) (hX:X<256^n) (k:Nat):(if k=j+n then 0 else dX (dv R) j n X k)=dv (X*256^j+R%256^j) k:=by
 have hj:0<256^j:=ik (by decide)
 have hlo:R%256^j<256^j:=aL _ hj
 by_cases hk:k<j
 ·rw[ae (by omega),dX,ae (by omega)]
  obtain⟨d,rfl⟩: ∃d,j=k+1+d:=⟨j-k-1,by omega⟩
  have e1:X*256^(k+1+d)+R%256^(k+1+d)=R%256^(k+1+d)+256^(k+1)*(256^d*X):=by
   rw[<-cM,<-cY,bO X];omega
  have e2 (Y:Nat):dv Y k=Y%256^(k+1)/256^k:=by
   unfold dv;rw[Nat.pow_succ,rf]
  rw[e2,e2,e1,xZ,uz _ (Dz 256 (by omega))]
 ·obtain⟨d,rfl⟩: ∃d,k=j+d:=⟨k-j,by omega⟩
  have e:dv (X*256^j+R%256^j) (j+d)=dv X d:=by
   unfold dv;rw[cY,<-eS,ij,bO X,nV _ _ hj,iB hlo,dF]
  rw[e]
  by_cases hd:d=n
  ·subst hd;rw[ah rfl,Gz hX]
  ·rw[ae (by omega)]
   unfold dX
   by_cases hdn:d<n
   ·rw[ah (by omega),Nat.add_sub_cancel_left,w9,Int.toNat_natCast]
   ·rw[ae (by omega),Gz (bE hX (dc (by decide) (by omega))),Gz (bE hR (dc (by decide) (by omega)))]
theorem CA (h:a<9223372036854775808):mT .i64 (a:Int) 255=((a%256:Nat):Int):=by
 unfold mT;have h1:(BitVec.ofInt 64 (a:Int)&&&BitVec.ofInt 64 255).toNat=a%256:=by
  rw[BitVec.toNat_and,BitVec.ofInt_natCast,kV,show(BitVec.ofInt 64 255).toNat=2^8-1 from rfl,b9 (by omega),Je]
 show IntKind.i64.wrap ((BitVec.ofInt 64 (a:Int)&&&BitVec.ofInt 64 255).toNat:Int)= _;rw[h1,IntWalk.i64_in _ (by omega)]
theorem Xu (ha:a<9223372036854775808) (hb:b<9223372036854775808):GC .i64 (a:Int) (b:Int)=((a|||b:Nat):Int):=by
 unfold GC;have h1:(BitVec.ofInt 64 (a:Int)|||BitVec.ofInt 64 (b:Int)).toNat=a|||b:=by
  rw[BitVec.toNat_or,BitVec.ofInt_natCast,BitVec.ofInt_natCast,kV,kV,b9 (by omega),b9 (by omega)]
 show IntKind.i64.wrap ((BitVec.ofInt 64 (a:Int)|||BitVec.ofInt 64 (b:Int)).toNat:Int)= _;have h2:a|||b<2^63:=Nat.or_lt_two_pow (by omega) (by omega)
 rw[h1,IntWalk.i64_in _ (by omega)]
theorem orS {a b s:Nat} (hs:s<=8) (ha:a<256) (hb:b<2^s):GC .i64 ((a*2^s:Nat):Int) (b:Int)=((a*2^s+b:Nat):Int):=by
 have h1:2^s<=2^8:=dc (by decide) hs
 have h2:a*2^s<=256*2^8:=iP (kX ha) h1;rw[Xu (by omega) (by omega),bO,<-Ji hb]
theorem orL (ha:a<256) (hb:b<256):GC .i64 (b:Int) ((a*256:Nat):Int)=((b+a*256:Nat):Int):=by
 rw[Xu (by omega) (by omega),Nat.or_comm,bO,<-Ji (i:=8) hb]
 omega
