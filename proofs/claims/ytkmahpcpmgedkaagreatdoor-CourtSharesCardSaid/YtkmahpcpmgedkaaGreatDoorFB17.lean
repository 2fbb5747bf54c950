/- Part of the proof. -/
import Derived.Test.YtkmahpcpmgedkaaGreatDoorFB16
set_option linter.all false
namespace Go.Dom
variable {a b f k n o ver x:Nat} {el:Option TypeId}
theorem Wn (x:Int):IntKind.u8.wrap x=x%256:=re x
theorem Lt (x:Int):IntKind.u32.wrap x=x%4294967296:=IntKind.wrap_u32 x
theorem By (x:Int):IntKind.u64.wrap x=x%18446744073709551616:=by simp[IntKind.wrap,IntKind.bits,IntKind.signed]
theorem CS (a b:Nat):(a:Int).fdiv (b:Int)=((a/b:Nat):Int):=by
 rw[Jo _ (by omega)];rfl
theorem Q0 (a k:Nat):(a:Int).fdiv (2^k)=((a/2^k:Nat):Int):=by
 have:((2:Int)^k)=((2^k:Nat):Int):=by simp
 rw[this,CS]
theorem lu (a:Nat):IntKind.u8.wrap (a:Int)=((UInt8.ofNat a).toNat:Int):=by
 rw[Wn,ix];omega
theorem gH (w a:Nat):BitVec.ofInt w (a:Int)=BitVec.ofNat w a:=BitVec.ofInt_natCast w a
theorem Pm (k:IntKind) (hk:k.signed=false) (x:Nat):k.wrap (x:Int)=((x%2^k.bits:Nat):Int):=by
 simp[IntKind.wrap,hk]
theorem U1 (k:IntKind) (hk:k.signed=false) (ha:a<2^k.bits) (hb:b<2^k.bits):GM k (a:Int) (b:Int)=((a|||b:Nat):Int):=by
 rw[GM,gH,gH,BitVec.toNat_or,kU,kU,bY ha,bY hb,Pm k hk,bY (Nat.or_lt_two_pow ha hb)]
theorem Nh (k:IntKind) (hk:k.signed=false) (ha:a<2^k.bits) (hb:b<2^k.bits):mU k (a:Int) (b:Int)=((a&&&b:Nat):Int):=by
 rw[mU,gH,gH,BitVec.toNat_and,kU,kU,bY ha,bY hb,Pm k hk,bY (Nat.and_lt_two_pow _ hb)]
theorem Tk (k:IntKind) (hk:k.signed=false) (ha:a<2^k.bits) (hb:b<2^k.bits):EY k (a:Int) (b:Int)=((a^^^b:Nat):Int):=by
 rw[EY,gH,gH,BitVec.toNat_xor,kU,kU,bY ha,bY hb,Pm k hk,bY (Nat.xor_lt_two_pow ha hb)]
theorem Fj {c:Nat} (h:c<2^k):x*2^k|||c=x*2^k+c:=by
 rw[<-Nat.shiftLeft_eq,Nat.shiftLeft_add_eq_or_of_lt h]
theorem LY (x k:Nat):x&&&(2^k-1)=x%2^k:=Jq x k
theorem nZ (l:List PV):chunk 1 l.length l=l:=by
 induction l with
 |nil=>rfl
 |cons x r ih=>simp[chunk,ih]
theorem Gc {hf:Nat->Option aF} {l:Bytes} {gr:Bool} {m:Nat} (hm:m=l.length) (h:hf n=some ⟨ver,aG l,gr,el⟩):
  view hf (f+2) (.rs n ver 0 m 1)=some (.sl (l.map u8)):=by
 subst hm;have h1:bz (view hf (f+1)) (aG l)=some (l.map u8):=by
  have:=eQ hf f (l.map u8);rw[iB]at this;exact this
 have h2:(aG l).all AV.one=true:=by simp[aG,AV.one,PV.one,u8]
 have h3:chunk 1 l.length (l.map u8)=l.map u8:=by have:=nZ (l.map u8);simpa using this
 simp[view,h,kH,h2,jF,h1,h3]
theorem DI {hf:Nat->Option aF} {l:Bytes} {gr:Bool} {m:Nat} (hm:m=l.length) (h:hf n=some ⟨ver,aG l,gr,el⟩):
  aV hf (f+2) (.rs n ver 0 m 1)=[n]:=by
 subst hm;have h1:(aG l).flatMap (aV hf (f+1))=[]:=by
  unfold aG
  induction l with
  |nil=>rfl
  |cons x r ih=>simp_all[aV]
 simp[aV,h,jF,h1]
theorem im {P:Program} [cu P] {Q:AX->AS->Prop} {nx:Nat} {bf:Option (List Nat)} {nn:Nat} {d:Option Nat} {ops:List kA} {s:AS} {tr:List (Nat×List Nat×List Nat)} {K:List Fr} {nm:Nat} {f:FuncId} {n ver m:Nat} {l:Bytes} {gr:Bool} {r:PV}
  (he:ry P f [.sl (l.map u8)] r) (hr:r.flat=true) (hg:az s.h n=some ⟨ver,aG l,gr,el⟩) (hm:m=l.length) (hK:RW P Q nx bf nn ops (k+1) (s.uh d (.v r) []) (AT bf k [n] [] tr) K):
  CR P Q nx bf nn nm (.v (.fn (.func f))) [.rs n ver 0 m 1] d ops k s tr K:=by
 refine qF he ?_ hr ?_
 ·simp[bz,Gc hm hg]
 ·have:[AV.rs n ver 0 m 1].flatMap (aV (az s.h) 9)=[n]:=by simp[DI hm hg]
  rw[this];exact hK
theorem sV {l:Bytes} {x:Int} {c:UInt8} (h:o<l.length) (hx:x=(c.toNat:Int)):(aG l).take o++[.v (.i .u8 x)]++(aG l).drop (o+1)=aG (l.set o c):=by
 subst hx;unfold aG;rw[uB,ya];simp[h,u8]
theorem Xp (a n:Nat):(a:Int).fdiv (no_index (OfNat.ofNat n))=((a/(OfNat.ofNat n):Nat):Int):=CS a n
theorem Yi (a b:Nat):(a:Int).tdiv (b:Int)=((a/b:Nat):Int):=rfl
theorem Yk (a b:Nat):(a:Int).tmod (b:Int)=((a%b:Nat):Int):=rfl
theorem Yh (a n:Nat):(a:Int).tdiv (no_index (OfNat.ofNat n))=((a/(OfNat.ofNat n):Nat):Int):=rfl
theorem Yj (a n:Nat):(a:Int).tmod (no_index (OfNat.ofNat n))=((a%(OfNat.ofNat n):Nat):Int):=rfl
theorem uw (a:Nat):IntKind.u64.wrap (a:Int)=((a%18446744073709551616:Nat):Int):=by rw[By];omega
theorem Bl (a b:Nat):IntKind.u64.wrap ((a:Int)*(b:Int))=((a*b%18446744073709551616:Nat):Int):=by rw[<-Int.natCast_mul,uw]
theorem tG (a n:Nat):IntKind.u64.wrap ((a:Int)*(no_index (OfNat.ofNat n)))=((a*(OfNat.ofNat n)%18446744073709551616:Nat):Int):=Bl a n
theorem zU (a n:Nat):IntKind.u64.wrap ((no_index (OfNat.ofNat n))*(a:Int))=(((OfNat.ofNat n)*a%18446744073709551616:Nat):Int):=Bl n a
theorem HF (a k:Nat):IntKind.u64.wrap ((a:Int)*2^k)=((a*2^k%18446744073709551616:Nat):Int):=by
 have:=Bl a (2^k);simpa using this
theorem Eu (a b:Nat):IntKind.u64.wrap ((a:Int)+(b:Int))=(((a+b)%18446744073709551616:Nat):Int):=by rw[<-Int.natCast_add,uw]
theorem yP (a n:Nat):IntKind.u64.wrap ((a:Int)+(no_index (OfNat.ofNat n)))=(((a+(OfNat.ofNat n))%18446744073709551616:Nat):Int):=Eu a n
theorem Dz (a b:Nat):IntKind.u64.wrap ((a:Int)-(b:Int))=(((a+(18446744073709551616-b%18446744073709551616))%18446744073709551616:Nat):Int):=by rw[By];omega
theorem AE (a n:Nat):IntKind.u64.wrap ((a:Int)-(no_index (OfNat.ofNat n)))=(((a+(18446744073709551616-(OfNat.ofNat n)%18446744073709551616))%18446744073709551616:Nat):Int):=Dz a n
theorem AD (a n:Nat):IntKind.u64.wrap ((no_index (OfNat.ofNat n))-(a:Int))=((((OfNat.ofNat n)+(18446744073709551616-a%18446744073709551616))%18446744073709551616:Nat):Int):=Dz n a
theorem ZC (a b:Nat):mU .u64 (a:Int) (b:Int)=(((a%18446744073709551616)&&&(b%18446744073709551616):Nat):Int):=by
 have h:=Nh .u64 rfl (a:=a%18446744073709551616) (b:=b%18446744073709551616) (aL _ (by decide)) (aL _ (by decide))
 rw[<-h];unfold mU;simp only[gH];congr 4<;>(apply BitVec.eq_of_toNat_eq;simp[IntKind.bits])
theorem rP (a:Nat):mU .u64 (a:Int) 4294967295=((a%4294967296:Nat):Int):=by
 have h:=ZC a 4294967295;have e:(a%18446744073709551616)&&&(4294967295%18446744073709551616)=a%4294967296:=by
  have:=LY (a%18446744073709551616) 32;rw[show(4294967295%18446744073709551616:Nat)=2^32-1 from rfl,this];omega
 rw[e]at h;exact h
theorem aaB (h:x<256):IntKind.u8.wrap (x:Int)=(x:Int):=IntWalk.u8_in _ (by omega)
attribute [go_sem] Xp Q0 Yi Yk Yh Yj
def aC (k:IntKind) (l:List Nat):List AV:=l.map fun x:Nat=> .v (.i k (x:Int))
theorem bc (k:IntKind) (l:List Nat):(aC k l).length=l.length:=by simp[aC]
theorem r5 (k:IntKind) (n:Nat):(List.replicate n [AV.v (PV.i k 0)]).flatten=aC k (List.replicate n 0):=by
 induction n with
 |zero=>rfl
 |succ n ih=>simp[List.replicate_succ,aC]at ih⊢
theorem dA {k:IntKind} {l:List Nat} {i:Nat} (h:i<l.length):(aC k l).getD i .u= .v (.i k (l.getD i 0:Nat)):=by
 simp[aC,bu,h]
theorem eH {k:IntKind} {l:List Nat} {y:Int} (h:o<l.length) (hy:y=(x:Int)):(aC k l).take o++[.v (.i k y)]++(aC k l).drop (o+1)=aC k (l.set o x):=by
 subst hy;unfold aC;rw[uB,ya];simp[h]
theorem aA (k:IntKind) (l:List Nat) (n:Nat):(∀y,y∈aC k l->y.bd n=true)=True:=by
 simp only[eq_iff_iff,iff_true];intro y hy;obtain⟨c,-,rfl⟩:=bG.1 hy;rfl
theorem FD (f:Nat->Option Nat) (k:IntKind) (l:List Nat):AV.aY.renL f (aC k l)=some (aC k l):=by
 induction l with
 |nil=>rfl
 |cons c l ih=>
  have:AV.aY.renL f (AV.v (.i k c)::aC k l)=some (AV.v (.i k c)::aC k l):=by simp[AV.aY.renL,AV.aY,ih]
  exact this
structure Hid (p:Prop):Prop where
 v:p
end Go.Dom
namespace Go.Dom
open Go.RowKit
section
variable {P:Program} [cu P] {Q:AX->AS->Prop}
variable {k n nm nx:Nat} {tr:List (Nat×List Nat×List Nat)}
theorem cP {bf:Option (List Nat)} {d:Option Nat} {ops:List kA} {s:AS} {K:List Fr} {f:FuncId} {avs:List AV} {pvs:List PV} {r:PV} (he:ry P f pvs r) (hK:RW P Q nx bf n ops (k+1) (s.uh d (.v r) []) (AT bf k [] [] tr) K) (ha:og avs=some pvs:=by exact rfl):
  CR P Q nx bf n nm (.v (.fn (.func f))) avs d ops k s tr K:=jb he ha hK
theorem cV {bf:Option (List Nat)} {d:Option Nat} {ops:List kA} {s:AS} {K:List Fr} {f:FuncId} {avs:List AV} {pvs:List PV} {r:PV} (he:ry P f pvs r) (hK:RW P Q nx bf n ops (k+1) (s.uh d (.v r) []) (AT bf k (avs.flatMap (aV (az s.h) 9)) [] tr) K) (ha:bz (view (az s.h) 9) avs=some pvs:=by exact rfl) (hr:r.flat=true:=by exact rfl):
  CR P Q nx bf n nm (.v (.fn (.func f))) avs d ops k s tr K:=qF he ha hr hK
theorem bP:(∀(c:Bool) (κ:BK),c=true->BX P Q c κ=BX P Q true κ)/\(∀(c:Bool) (κ:BK),c=false->BX P Q c κ=BX P Q false κ)/\(∀(p:Prop) (κ:BK),p->PX P Q p κ=BX P Q true κ)/\(∀(p:Prop) (κ:BK),¬p->PX P Q p κ=BX P Q false κ):=
 ⟨fun _ _ h=>PI h,fun _ _ h=>PH h,fun _ _ h=>LM h,fun _ _ h=>LK h⟩
theorem pX {p:Prop} {κ:BK} (h1:p->BX P Q true κ) (h2: ¬p->BX P Q false κ):PX P Q p κ:=PX.mk h1 h2
theorem bX {c:Bool} {κ:BK} (h1:c=true->BX P Q true κ) (h2:c=false->BX P Q false κ):BX P Q c κ:=BX.mk h1 h2
end
theorem bW:(∀n:Int,-9223372036854775808<=n/\n<=9223372036854775807->IntKind.i64.wrap n=n)/\(∀n:Int,0<=n/\n<=18446744073709551615->IntKind.u64.wrap n=n):=⟨IntWalk.i64_in,IntWalk.u64_in⟩
theorem oD {p:Prop} (h:p:=by first|omega|decide):p:=h
theorem lE {t t':List (Nat×AV)} {h h':List (Nat×aF)} {n n':Nat} (hn:n<=n':=by first|decide|omega) (ht:dy t' n t:=by simp[dy,dx,aO,az,AV.bd,AV.bd.bdL,u8,ar,ax,aA]) (hh:dx h' n h:=by simp[dy,dx,aO,az,AV.bd,AV.bd.bdL,u8,ar,ax,aA]):(AS.mk t h n).Le ⟨t',h',n'⟩:=AS.Le.of hn ht hh
end Go.Dom
namespace Go.Dom
open Go.RowKit
class Br (g:Prop) (c d t f:outParam Prop):Prop where
 go:(c->t)->(d->f)->g
section
variable {P:Program} [cu P] {Q:AX->AS->Prop}
instance brP {p:Prop} {κ:BK}:Br (PX P Q p κ) p (¬p) (BX P Q true κ) (BX P Q false κ):=⟨pX⟩
instance brB {c:Bool} {κ:BK}:Br (BX P Q c κ) (c=true) (c=false) (BX P Q true κ) (BX P Q false κ):=⟨bX⟩
end
variable {A0 A1 A2 A3 A4 A5 A6 X Y p q:Prop}
theorem xX {g c d t f:Prop} [b:Br g c d t f] (h1:c->t) (h2:d->f):g:=b.go h1 h2
theorem oO (h:p:=by omega):p:=h
theorem oC (h:p:=by decide):p:=h
theorem oE (h:q) (e:p=q:=by first|(simp(disch:=first|assumption|omega) only[bP,bW]<;>rfl)|exact propext ⟨And.right,fun x=>And.intro oD x⟩|((fail_if_success apply xX);exact propext ⟨fun _=>trivial,fun _=>oD⟩)):p:=e▸h
theorem oT:True:=trivial
theorem lG {t t':List (Nat×AV)} {h h':List (Nat×aF)} {n n':Nat} (a:q) (hn:n<=n':=by first|decide|omega) (e:(dy t' n t/\dx h' n h)=q:=by simp[dy,dx,aO,az,AV.bd,AV.bd.bdL,u8,ar,ax,aA]<;>rfl):(AS.mk t h n).Le ⟨t',h',n'⟩:=AS.Le.of hn (e▸a:dy t' n t/\dx h' n h).1 (e▸a:dy t' n t/\dx h' n h).2
structure Wr (Y:Prop):Prop where
 go:Y
theorem lI {P:Program} [cu P] {Q:AX->AS->Prop} {a:SC} {K:List Fr} {N:Nat} {s:AS} (h:yN P Q a K N s):yN P Q a K N s:=h
theorem aN {A B:Prop} (a:A) (b:B):A/\B:=⟨a,b⟩
theorem z0 (h:p:=by
 repeat' first|simp only[go_sem,seval]|refine oE ?_|apply xX<;>intro hc
 all_goals rfl):p:=h
theorem z1 (a0:A0) (h:A0->p:=by
 intro K0;repeat' first|simp only[go_sem,seval]|refine cP K0 ?_|refine oE ?_|apply xX<;>intro hc
 all_goals rfl):p:=h a0
theorem z2 (a0:A0) (a1:A1) (h:A0->A1->p:=by
 intro K0 K1;repeat' first|simp only[go_sem,seval]|refine cP K0 ?_|refine cP K1 ?_|refine oE ?_|apply xX<;>intro hc
 all_goals rfl):p:=h a0 a1
theorem z3 (a0:A0) (a1:A1) (a2:A2) (h:A0->A1->A2->p:=by
 intro K0 K1 K2;repeat' first|simp only[go_sem,seval]|refine cP K0 ?_|refine cP K1 ?_|refine cP K2 ?_|refine oE ?_|apply xX<;>intro hc
 all_goals rfl):p:=h a0 a1 a2
theorem z4 (a0:A0) (a1:A1) (a2:A2) (a3:A3) (h:A0->A1->A2->A3->p:=by
 intro K0 K1 K2 K3;repeat' first|simp only[go_sem,seval]|refine cP K0 ?_|refine cP K1 ?_|refine cP K2 ?_|refine cP K3 ?_|refine oE ?_|apply xX<;>intro hc
 all_goals rfl):p:=h a0 a1 a2 a3
theorem z5 (a0:A0) (a1:A1) (a2:A2) (a3:A3) (a4:A4) (h:A0->A1->A2->A3->A4->p:=by
 intro K0 K1 K2 K3 K4;repeat' first|simp only[go_sem,seval]|refine cP K0 ?_|refine cP K1 ?_|refine cP K2 ?_|refine cP K3 ?_|refine cP K4 ?_|refine oE ?_|apply xX<;>intro hc
 all_goals rfl):p:=h a0 a1 a2 a3 a4
theorem z6 (a0:A0) (a1:A1) (a2:A2) (a3:A3) (a4:A4) (a5:A5) (h:A0->A1->A2->A3->A4->A5->p:=by
 intro K0 K1 K2 K3 K4 K5;repeat' first|simp only[go_sem,seval]|refine cP K0 ?_|refine cP K1 ?_|refine cP K2 ?_|refine cP K3 ?_|refine cP K4 ?_|refine cP K5 ?_|refine oE ?_|apply xX<;>intro hc
 all_goals rfl):p:=h a0 a1 a2 a3 a4 a5
theorem z7 (a0:A0) (a1:A1) (a2:A2) (a3:A3) (a4:A4) (a5:A5) (a6:A6) (h:A0->A1->A2->A3->A4->A5->A6->p:=by
 intro K0 K1 K2 K3 K4 K5 K6;repeat' first|simp only[go_sem,seval]|refine cP K0 ?_|refine cP K1 ?_|refine cP K2 ?_|refine cP K3 ?_|refine cP K4 ?_|refine cP K5 ?_|refine cP K6 ?_|refine oE ?_|apply xX<;>intro hc
 all_goals rfl):p:=h a0 a1 a2 a3 a4 a5 a6
theorem PG (h:p:=by
 repeat' first|simp only[go_sem,seval]|refine ai ?_|refine oE ?_|apply xX<;>intro hc
 all_goals rfl):p:=h
theorem TK (a0:A0) (h:A0->p:=by
 intro K0;repeat' first|simp only[go_sem,seval]|refine cP K0 ?_|refine ai ?_|refine oE ?_|apply xX<;>intro hc
 all_goals rfl):p:=h a0
theorem Pz (a0:A0) (a1:A1) (h:A0->A1->p:=by
 intro K0 K1;repeat' first|simp only[go_sem,seval]|refine cP K0 ?_|refine cP K1 ?_|refine ai ?_|refine oE ?_|apply xX<;>intro hc
 all_goals rfl):p:=h a0 a1
theorem Y7 (a0:A0) (a1:A1) (a2:A2) (h:A0->A1->A2->p:=by
 intro K0 K1 K2;repeat' first|simp only[go_sem,seval]|refine cP K0 ?_|refine cP K1 ?_|refine cP K2 ?_|refine ai ?_|refine oE ?_|apply xX<;>intro hc
 all_goals rfl):p:=h a0 a1 a2
theorem Y8 (a0:A0) (a1:A1) (a2:A2) (a3:A3) (h:A0->A1->A2->A3->p:=by
 intro K0 K1 K2 K3;repeat' first|simp only[go_sem,seval]|refine cP K0 ?_|refine cP K1 ?_|refine cP K2 ?_|refine cP K3 ?_|refine ai ?_|refine oE ?_|apply xX<;>intro hc
 all_goals rfl):p:=h a0 a1 a2 a3
theorem zu5 (a0:A0) (a1:A1) (a2:A2) (a3:A3) (a4:A4) (h:A0->A1->A2->A3->A4->p:=by
 intro K0 K1 K2 K3 K4;repeat' first|simp only[go_sem,seval]|refine cP K0 ?_|refine cP K1 ?_|refine cP K2 ?_|refine cP K3 ?_|refine cP K4 ?_|refine ai ?_|refine oE ?_|apply xX<;>intro hc
 all_goals rfl):p:=h a0 a1 a2 a3 a4
theorem zg0 (y:Y) (h:Y->p:=by
 intro KY;repeat' first|simp only[go_sem,seval]|refine oE ?_|exact KY _ lE|apply xX<;>intro hc
 all_goals rfl):p:=h y
theorem zg2 (y:Y) (a0:A0) (a1:A1) (h:Y->A0->A1->p:=by
 intro KY K0 K1;repeat' first|simp only[go_sem,seval]|refine cP K0 ?_|refine cP K1 ?_|refine oE ?_|exact KY _ lE|apply xX<;>intro hc
 all_goals rfl):p:=h y a0 a1
theorem zg4 (y:Y) (a0:A0) (a1:A1) (a2:A2) (a3:A3) (h:Y->A0->A1->A2->A3->p:=by
 intro KY K0 K1 K2 K3;repeat' first|simp only[go_sem,seval]|refine cP K0 ?_|refine cP K1 ?_|refine cP K2 ?_|refine cP K3 ?_|refine oE ?_|exact KY _ lE|apply xX<;>intro hc
 all_goals rfl):p:=h y a0 a1 a2 a3
theorem Zi (h:p:=by
 repeat' first|simp only[go_sem,seval]|refine oE ?_|apply xX<;>intro hc
 all_goals simp_all):p:=h
theorem Zj (a0:A0) (h:A0->p:=by
 intro K0;repeat' first|simp only[go_sem,seval]|refine cP K0 ?_|refine oE ?_|apply xX<;>intro hc
 all_goals (clear K0;simp_all)):p:=h a0
theorem Wu (a0:A0) (a1:A1) (h:A0->A1->p:=by
 intro K0 K1;repeat' first|simp only[go_sem,seval]|refine cP K0 ?_|refine cP K1 ?_|refine oE ?_|apply xX<;>intro hc
 all_goals (clear K0 K1;simp_all)):p:=h a0 a1
theorem zs4 (a0:A0) (a1:A1) (a2:A2) (a3:A3) (h:A0->A1->A2->A3->p:=by
 intro K0 K1 K2 K3;repeat' first|simp only[go_sem,seval]|refine cP K0 ?_|refine cP K1 ?_|refine cP K2 ?_|refine cP K3 ?_|refine oE ?_|apply xX<;>intro hc
 all_goals (clear K0 K1 K2 K3;simp_all)):p:=h a0 a1 a2 a3
theorem pU (y:Y) (h:Wr Y->p:=by
 intro KY;repeat' first|simp only[go_sem,seval]|exact lI KY.1|refine oE ?_|apply xX<;>intro hc
 all_goals rfl):p:=h ⟨y⟩
theorem WH (a0:A0) (y:Y) (h:Wr Y->A0->p:=by
 intro KY K0;repeat' first|simp only[go_sem,seval]|refine cP K0 ?_|exact lI KY.1|refine oE ?_|apply xX<;>intro hc
 all_goals rfl):p:=h ⟨y⟩ a0
theorem zl2 (a0:A0) (a1:A1) (y:Y) (h:Wr Y->A0->A1->p:=by
 intro KY K0 K1;repeat' first|simp only[go_sem,seval]|refine cP K0 ?_|refine cP K1 ?_|exact lI KY.1|refine oE ?_|apply xX<;>intro hc
 all_goals rfl):p:=h ⟨y⟩ a0 a1
theorem xB (y:Y) (h:Wr Y->p:=by
 intro KY;repeat' first|simp only[go_sem,seval]|refine oE ?_|apply xX<;>intro hc
 exact KY.1):p:=h ⟨y⟩
theorem Zk (a0:A0) (y:Y) (h:Wr Y->A0->p:=by
 intro KY K0;repeat' first|simp only[go_sem,seval]|refine cP K0 ?_|refine oE ?_|apply xX<;>intro hc
 exact KY.1):p:=h ⟨y⟩ a0
theorem gn (x:X) (h:(True->X)->p:=by
 intro KX;repeat' first|simp only[go_sem,seval,KX trivial]|refine oE ?_|apply xX<;>intro hc
 all_goals rfl):p:=h (fun _=>x)
theorem mi (x:X) (a0:A0) (h:(True->X)->A0->p:=by
 intro KX K0;repeat' first|simp only[go_sem,seval,KX trivial]|refine cP K0 ?_|refine oE ?_|apply xX<;>intro hc
 all_goals rfl):p:=h (fun _=>x) a0
theorem AN (x:X) (a0:A0) (a1:A1) (h:(True->X)->A0->A1->p:=by
 intro KX K0 K1;repeat' first|simp only[go_sem,seval,KX trivial]|refine cP K0 ?_|refine cP K1 ?_|refine oE ?_|apply xX<;>intro hc
 all_goals rfl):p:=h (fun _=>x) a0 a1
theorem yG (x:X) (a0:A0) (a1:A1) (a2:A2) (a3:A3) (h:(True->X)->A0->A1->A2->A3->p:=by
 intro KX K0 K1 K2 K3;repeat' first|simp only[go_sem,seval,KX trivial]|refine cP K0 ?_|refine cP K1 ?_|refine cP K2 ?_|refine cP K3 ?_|refine oE ?_|apply xX<;>intro hc
 all_goals rfl):p:=h (fun _=>x) a0 a1 a2 a3
theorem AU (x:X) (a0:A0) (a1:A1) (a2:A2) (a3:A3) (a4:A4) (a5:A5) (a6:A6) (h:(True->X)->A0->A1->A2->A3->A4->A5->A6->p:=by
 intro KX K0 K1 K2 K3 K4 K5 K6;repeat' first|simp only[go_sem,seval,KX trivial]|refine cP K0 ?_|refine cP K1 ?_|refine cP K2 ?_|refine cP K3 ?_|refine cP K4 ?_|refine cP K5 ?_|refine cP K6 ?_|refine oE ?_|apply xX<;>intro hc
 all_goals rfl):p:=h (fun _=>x) a0 a1 a2 a3 a4 a5 a6
theorem HW {A7 A8 A9 A10 A11:Prop} (x:X) (a0:A0) (a1:A1) (a2:A2) (a3:A3) (a4:A4) (a5:A5) (a6:A6) (a7:A7) (a8:A8) (a9:A9) (a10:A10) (a11:A11) (h:(True->X)->A0->A1->A2->A3->A4->A5->A6->A7->A8->A9->A10->A11->p:=by
 intro KX K0 K1 K2 K3 K4 K5 K6 K7 K8 K9 K10 K11;repeat' first|simp only[go_sem,seval,KX trivial]|refine cP K0 ?_|refine cP K1 ?_|refine cP K2 ?_|refine cP K3 ?_|refine cP K4 ?_|refine cP K5 ?_|refine cP K6 ?_|refine cP K7 ?_|refine cP K8 ?_|refine cP K9 ?_|refine cP K10 ?_|refine cP K11 ?_|refine oE ?_|apply xX<;>intro hc
 all_goals rfl):p:=h (fun _=>x) a0 a1 a2 a3 a4 a5 a6 a7 a8 a9 a10 a11
theorem SU (x:X) (h:(True->X)->p:=by
 intro KX;repeat' first|simp only[go_sem,seval,KX trivial]|refine ai ?_|refine oE ?_|apply xX<;>intro hc
 all_goals rfl):p:=h (fun _=>x)
theorem aaC (x:X) (a0:A0) (h:(True->X)->A0->p:=by
 intro KX K0;repeat' first|simp only[go_sem,seval,KX trivial]|refine cP K0 ?_|refine ai ?_|refine oE ?_|apply xX<;>intro hc
 all_goals rfl):p:=h (fun _=>x) a0
theorem aaD (x:X) (a0:A0) (a1:A1) (a2:A2) (h:(True->X)->A0->A1->A2->p:=by
 intro KX K0 K1 K2;repeat' first|simp only[go_sem,seval,KX trivial]|refine cP K0 ?_|refine cP K1 ?_|refine cP K2 ?_|refine ai ?_|refine oE ?_|apply xX<;>intro hc
 all_goals rfl):p:=h (fun _=>x) a0 a1 a2
theorem Y6 (x:X) (a0:A0) (a1:A1) (a2:A2) (a3:A3) (h:(True->X)->A0->A1->A2->A3->p:=by
 intro KX K0 K1 K2 K3;repeat' first|simp only[go_sem,seval,KX trivial]|refine cP K0 ?_|refine cP K1 ?_|refine cP K2 ?_|refine cP K3 ?_|refine ai ?_|refine oE ?_|apply xX<;>intro hc
 all_goals rfl):p:=h (fun _=>x) a0 a1 a2 a3
theorem jC (x:X) (y:Y) (h:(True->X)->Y->p:=by
 intro KX KY;repeat' first|simp only[go_sem,seval,KX trivial]|refine oE ?_|exact KY _ lE|apply xX<;>intro hc
 all_goals rfl):p:=h (fun _=>x) y
theorem gV (x:X) (y:Y) (a0:A0) (h:(True->X)->Y->A0->p:=by
 intro KX KY K0;repeat' first|simp only[go_sem,seval,KX trivial]|refine cP K0 ?_|refine oE ?_|exact KY _ lE|apply xX<;>intro hc
 all_goals rfl):p:=h (fun _=>x) y a0
theorem rv (x:X) (y:Y) (a0:A0) (a1:A1) (h:(True->X)->Y->A0->A1->p:=by
 intro KX KY K0 K1;repeat' first|simp only[go_sem,seval,KX trivial]|refine cP K0 ?_|refine cP K1 ?_|refine oE ?_|exact KY _ lE|apply xX<;>intro hc
 all_goals rfl):p:=h (fun _=>x) y a0 a1
theorem Y5 (x:X) (y:Y) (a0:A0) (a1:A1) (a2:A2) (a3:A3) (h:(True->X)->Y->A0->A1->A2->A3->p:=by
 intro KX KY K0 K1 K2 K3;repeat' first|simp only[go_sem,seval,KX trivial]|refine cP K0 ?_|refine cP K1 ?_|refine cP K2 ?_|refine cP K3 ?_|refine oE ?_|exact KY _ lE|apply xX<;>intro hc
 all_goals rfl):p:=h (fun _=>x) y a0 a1 a2 a3
theorem Wq (x:X) (a0:A0) (h:(True->X)->A0->p:=by
 intro KX K0;repeat' first|simp only[go_sem,seval,KX trivial]|refine cP K0 ?_|refine oE ?_|apply xX<;>intro hc
 all_goals (clear KX K0;simp_all)):p:=h (fun _=>x) a0
theorem Ws (x:X) (a0:A0) (a1:A1) (h:(True->X)->A0->A1->p:=by
 intro KX K0 K1;repeat' first|simp only[go_sem,seval,KX trivial]|refine cP K0 ?_|refine cP K1 ?_|refine oE ?_|apply xX<;>intro hc
 all_goals (clear KX K0 K1;simp_all)):p:=h (fun _=>x) a0 a1
theorem Wt (x:X) (a0:A0) (a1:A1) (a2:A2) (a3:A3) (h:(True->X)->A0->A1->A2->A3->p:=by
 intro KX K0 K1 K2 K3;repeat' first|simp only[go_sem,seval,KX trivial]|refine cP K0 ?_|refine cP K1 ?_|refine cP K2 ?_|refine cP K3 ?_|refine oE ?_|apply xX<;>intro hc
 all_goals (clear KX K0 K1 K2 K3;simp_all)):p:=h (fun _=>x) a0 a1 a2 a3
theorem Py (x:X) (a0:A0) (a1:A1) (a2:A2) (a3:A3) (a4:A4) (a5:A5) (a6:A6) (h:(True->X)->A0->A1->A2->A3->A4->A5->A6->p:=by
 intro KX K0 K1 K2 K3 K4 K5 K6;repeat' first|simp only[go_sem,seval,KX trivial]|refine cP K0 ?_|refine cP K1 ?_|refine cP K2 ?_|refine cP K3 ?_|refine cP K4 ?_|refine cP K5 ?_|refine cP K6 ?_|refine oE ?_|apply xX<;>intro hc
 all_goals (clear KX K0 K1 K2 K3 K4 K5 K6;simp_all)):p:=h (fun _=>x) a0 a1 a2 a3 a4 a5 a6
theorem cU (x:X) (y:Y) (h:(True->X)->Wr Y->p:=by
 intro KX KY;repeat' first|simp only[go_sem,seval,KX trivial]|exact lI KY.1|refine oE ?_|apply xX<;>intro hc
 all_goals rfl):p:=h (fun _=>x) ⟨y⟩
theorem nc (x:X) (a0:A0) (y:Y) (h:(True->X)->Wr Y->A0->p:=by
 intro KX KY K0;repeat' first|simp only[go_sem,seval,KX trivial]|refine cP K0 ?_|exact lI KY.1|refine oE ?_|apply xX<;>intro hc
 all_goals rfl):p:=h (fun _=>x) ⟨y⟩ a0
theorem Px (x:X) (a0:A0) (a1:A1) (y:Y) (h:(True->X)->Wr Y->A0->A1->p:=by
 intro KX KY K0 K1;repeat' first|simp only[go_sem,seval,KX trivial]|refine cP K0 ?_|refine cP K1 ?_|exact lI KY.1|refine oE ?_|apply xX<;>intro hc
 all_goals rfl):p:=h (fun _=>x) ⟨y⟩ a0 a1
theorem uV (x:X) (a0:A0) (a1:A1) (a2:A2) (a3:A3) (y:Y) (h:(True->X)->Wr Y->A0->A1->A2->A3->p:=by
 intro KX KY K0 K1 K2 K3;repeat' first|simp only[go_sem,seval,KX trivial]|refine cP K0 ?_|refine cP K1 ?_|refine cP K2 ?_|refine cP K3 ?_|exact lI KY.1|refine oE ?_|apply xX<;>intro hc
 all_goals rfl):p:=h (fun _=>x) ⟨y⟩ a0 a1 a2 a3
theorem Gj (x:X) (a0:A0) (a1:A1) (a2:A2) (a3:A3) (a4:A4) (a5:A5) (a6:A6) (y:Y) (h:(True->X)->Wr Y->A0->A1->A2->A3->A4->A5->A6->p:=by
 intro KX KY K0 K1 K2 K3 K4 K5 K6;repeat' first|simp only[go_sem,seval,KX trivial]|refine cP K0 ?_|refine cP K1 ?_|refine cP K2 ?_|refine cP K3 ?_|refine cP K4 ?_|refine cP K5 ?_|refine cP K6 ?_|exact lI KY.1|refine oE ?_|apply xX<;>intro hc
 all_goals rfl):p:=h (fun _=>x) ⟨y⟩ a0 a1 a2 a3 a4 a5 a6
theorem dH (x:X) (y:Y) (h:(True->X)->Wr Y->p:=by
 intro KX KY;repeat' first|simp only[go_sem,seval,KX trivial]|refine oE ?_|apply xX<;>intro hc
 exact KY.1):p:=h (fun _=>x) ⟨y⟩
theorem kz (x:X) (a0:A0) (y:Y) (h:(True->X)->Wr Y->A0->p:=by
 intro KX KY K0;repeat' first|simp only[go_sem,seval,KX trivial]|refine cP K0 ?_|refine oE ?_|apply xX<;>intro hc
 exact KY.1):p:=h (fun _=>x) ⟨y⟩ a0
theorem pV (x:X) (a0:A0) (a1:A1) (y:Y) (h:(True->X)->Wr Y->A0->A1->p:=by
 intro KX KY K0 K1;repeat' first|simp only[go_sem,seval,KX trivial]|refine cP K0 ?_|refine cP K1 ?_|refine oE ?_|apply xX<;>intro hc
 exact KY.1):p:=h (fun _=>x) ⟨y⟩ a0 a1
theorem wI (x:X) (a0:A0) (a1:A1) (a2:A2) (a3:A3) (y:Y) (h:(True->X)->Wr Y->A0->A1->A2->A3->p:=by
 intro KX KY K0 K1 K2 K3;repeat' first|simp only[go_sem,seval,KX trivial]|refine cP K0 ?_|refine cP K1 ?_|refine cP K2 ?_|refine cP K3 ?_|refine oE ?_|apply xX<;>intro hc
 exact KY.1):p:=h (fun _=>x) ⟨y⟩ a0 a1 a2 a3
theorem SV (x:X) (a0:A0) (a1:A1) (a2:A2) (a3:A3) (a4:A4) (a5:A5) (a6:A6) (y:Y) (h:(True->X)->Wr Y->A0->A1->A2->A3->A4->A5->A6->p:=by
 intro KX KY K0 K1 K2 K3 K4 K5 K6;repeat' first|simp only[go_sem,seval,KX trivial]|refine cP K0 ?_|refine cP K1 ?_|refine cP K2 ?_|refine cP K3 ?_|refine cP K4 ?_|refine cP K5 ?_|refine cP K6 ?_|refine oE ?_|apply xX<;>intro hc
 exact KY.1):p:=h (fun _=>x) ⟨y⟩ a0 a1 a2 a3 a4 a5 a6
end Go.Dom
namespace Go.Dom
variable {a b:Bytes} {i k n:Nat}
def num:Bytes->Nat
 |[]=>0
 |x::r=>x.toNat*256^r.length+num r
def be:Nat->Nat->Bytes
 |0,_=>[]
 |k+1,n=>UInt8.ofNat (n/256^k)::be k n
def fL:Bytes->Bytes
 |[]=>[]
 |x::r=>if x=0 then fL r else x::r
def aX (n:Nat):Bytes:=fL (be (n.log2/8+1) n)
def aa (a:Bytes):Bool:=decide (a.length<=128)&&(a.length==0||a.headD 0 !=0)
theorem cv (k n:Nat):(be k n).length=k:=by induction k<;>simp_all[be]
theorem jq (k:Nat):0<256^k:=gR (by decide)
theorem cL (a:Bytes):num a<256^a.length:=by
 induction a with
 |nil=>decide
 |cons x r ih=>
  simp only[num,List.length_cons,Nat.pow_succ];have:=x.toNat_lt;have h2:x.toNat*256^r.length<=255*256^r.length:=du _ (by omega)
  omega
theorem zW (a b:Bytes):num (a++b)=num a*256^b.length+num b:=by
 induction a with
 |nil=>simp[num]
 |cons x r ih=>simp only[List.cons_append,num,ih,bJ,cZ,c9,cF];omega
theorem Ff (a:Bytes) (x:UInt8):num (a++[x])=num a*256+x.toNat:=by simp[zW,num]
theorem zX (k n:Nat):num (be k n)=n%256^k:=by
 induction k with
 |zero=>simp[be,num,mB]
 |succ k ih=>
  simp only[be,num,cv,ih,ix];have h:=pC (x:=n) (a:=256^k) (b:=256);rw[show(256:Nat)^(k+1)=256^k*256 from Nat.pow_succ ..,h,bO (256^k)]
  show n/256^k%256*256^k+n%256^k= _;omega
theorem CC (a:Bytes):be a.length (num a)=a:=by
 induction a with
 |nil=>rfl
 |cons x r ih=>
  have h:num (x::r)=x.toNat*256^r.length+num r:=rfl;have h1:=cL r;have h2:num (x::r)/256^r.length=x.toNat:=by
   rw[h,bO,yw (jq _),iD h1];omega
  have h3: ∀k m m',m%256^k=m'%256^k->be k m=be k m':=by
   intro k
   induction k with
   |zero=>intros;rfl
   |succ k ih=>
    intro m m' hm;have e1:m/256^k%256=m'/256^k%256:=by
     rw[Nat.pow_succ]at hm;have a1:=pC (x:=m) (a:=256^k) (b:=256);have a2:=pC (x:=m') (a:=256^k) (b:=256);have b1:m%(256^k*256)/256^k=m/256^k%256:=by rw[rh]
     have b2:m'%(256^k*256)/256^k=m'/256^k%256:=by rw[rh]
     rw[<-b1,<-b2,hm]
    have e2:m%256^k=m'%256^k:=by
     have a1:m%256^(k+1)%256^k=m%256^k:=uz _ (DW 256 (Nat.le_succ k));have a2:m'%256^(k+1)%256^k=m'%256^k:=uz _ (DW 256 (Nat.le_succ k));rw[<-a1,<-a2,hm]
    simp only[be,ih m m' e2];congr 1;apply jv.1;simpa using e1
  simp only[List.length_cons,be,h2];rw[show UInt8.ofNat x.toNat=x by simp,h3 r.length (num (x::r)) (num r) (by rw[h,Nat.mul_add_mod_self_right]),ih]
theorem sE (a:Bytes): ∃k,a=List.replicate k 0++fL a/\(fL a=[]\/(fL a).headD 0≠0):=by
 induction a with
 |nil=>exact⟨0,rfl, .inl rfl⟩
 |cons x r ih=>
  simp only[fL];split
  ·rename_i h;subst h;obtain⟨k,e,h⟩:=ih;exact⟨k+1,by simp[List.replicate_succ,<-e],h⟩
  ·rename_i h;exact⟨0,rfl, .inr h⟩
theorem Kq (k:Nat) (a:Bytes):num (List.replicate k 0++a)=num a:=by
 induction k with
 |zero=>rfl
 |succ k ih=>simp[List.replicate_succ,num,ih]
theorem zY (a:Bytes):num (fL a)=num a:=by
 obtain⟨k,e,-⟩:=sE a
 conv=>rhs;rw[e,Kq]
theorem Pc (a:Bytes):(fL a).length<=a.length:=by
 obtain⟨k,e,-⟩:=sE a;have:=congrArg List.length e;simp at this;omega
def Canon (a:Bytes):Prop:=a=[]\/a.headD 0≠0
theorem sF (a:Bytes):Canon (fL a):=by obtain⟨k,-,h⟩:=sE a;exact h
theorem ou (h:Canon a) (hne:a≠[]):256^(a.length-1)<=num a:=by
 cases a with
 |nil=>exact aW rfl hne
 |cons x r=>
  rcases h with h|h
  ·cases h
  ·have hx:0<x.toNat:=by
    rcases j6 x.toNat with e|e
    ·exact aW (jv.1 e:x=0) h
    ·exact e
   simp only[num,List.length_cons,jw];have:=du (256^r.length) hx;omega
theorem vw (ha:Canon a) (hb:Canon b) (h:num a=num b):a=b:=by
 have key: ∀{a b:Bytes},Canon a->Canon b->num a=num b->a.length<=b.length:=by
  intro a b ha hb h
  by_cases hne:a=[]
  ·subst hne;simp
  ·have h1:=ou ha hne;have h2:=cL b;have h3:256^(a.length-1)<256^b.length:=by omega
   have:=(qX (by decide:1<256)).1 h3
   omega
 have hl:a.length=b.length:=Ef (key ha hb h) (key hb ha h.symm);have h1:=CC a;rw[h,hl,CC b]at h1;exact h1.symm
theorem Rq (n:Nat):n<256^(n.log2/8+1):=by
 have h1:n<2^(n.log2+1):=uQ;have h2:(256:Nat)^(n.log2/8+1)=2^(8*(n.log2/8+1)):=by rw[ko]
 rw[h2];exact bH h1 (dF (by decide) (by omega))
theorem aP (n:Nat):num (aX n)=n:=by
 rw[aX,zY,zX];exact bY (Rq n)
theorem gZ (n:Nat):Canon (aX n):=sF _
theorem Ic (h:Canon a):aX (num a)=a:=vw (gZ _) h (aP _)
theorem Pb (a:Bytes):fL a=aX (num a):=vw (sF _) (gZ _) (by rw[zY,aP])
theorem jZ (h:n<256^k):fL (be k n)=aX n:=by rw[Pb,zX,bY h]
theorem Mn:aX 0=[]:=by decide
theorem oV:(aX n).length<=k↔n<256^k:=by
 constructor
 ·intro h;have:=cL (aX n);rw[aP]at this;exact bH this (dF (by decide) h)
 ·intro h
  by_cases hne:aX n=[]
  ·simp[hne]
  ·have h1:=ou (gZ n) hne;rw[aP]at h1;have h3:256^((aX n).length-1)<256^k:=by omega
   have:=(qX (by decide:1<256)).1 h3
   omega
theorem Ib {m n:Nat}:aX m=aX n↔m=n:=⟨fun h=>by rw[<-aP m,h,aP],fun h=>by rw[h]⟩
theorem gM:aX n=[]↔n=0:=by rw[<-Mn];exact Ib
theorem sH (a:Bytes):aa a=true↔a.length<=128/\Canon a:=by
 unfold aa Canon
 cases a with
 |nil=>simp
 |cons x r=>simp
theorem bL (h:aa a=true):Canon a:=((sH a).1 h).2
theorem gN (h:aa a=true):aX (num a)=a:=Ic (bL h)
theorem cT (h:aa a=true):a.length<=128:=((sH a).1 h).1
theorem mV (h:aa a=true):num a<256^128:=bH (cL a) (dF (by decide) (cT h))
theorem qS (h:n<256^128):aa (aX n)=true:=(sH _).2 ⟨oV.2 h,gZ n⟩
theorem tK (ha:aa a=true):num a=0↔a=[]:=by
 constructor
 ·intro h;exact vw (bL ha) (.inl rfl) h
 ·intro h;subst h;rfl
theorem vO (a:Bytes) (h:i<a.length):(a.getD (a.length-1-i) 0).toNat=num a/256^i%256:=by
 have e:a=a.take (a.length-1-i)++(a.getD (a.length-1-i) 0::a.drop (a.length-i)):=by
  have h2:a.length-1-i<a.length:=by omega
  conv=>lhs;rw[<-uK (a.length-1-i) a,jf h2]
  rw[show a.length-1-i+1=a.length-i by omega]
  simp[bu,h2]
 have hl:(a.drop (a.length-i)).length=i:=by simp;omega
 have hn:=zW (a.take (a.length-1-i)) (a.getD (a.length-1-i) 0::a.drop (a.length-i));rw[<-e]at hn;simp only[num,List.length_cons,hl]at hn;have hlt:=cL (a.drop (a.length-i));rw[hl]at hlt;generalize (a.getD (a.length-1-i) 0)=c at hn⊢;have hc:=c.toNat_lt;have:num a=(num (a.take (a.length-1-i))*256+c.toNat)*256^i+num (a.drop (a.length-i)):=by
  rw[hn,Nat.pow_succ,c9,cF,bO 256];omega
 rw[this,bO _ (256^i),yw (jq _),iD hlt];omega
theorem si (a:Bytes) (h:a.length<=i):num a/256^i=0:=iD (bH (cL a) (dF (by decide) h))
theorem wU (x y:UInt8) {r s:Bytes} (hl:r.length=s.length):num (x::r)<num (y::s)↔x.toNat<y.toNat\/(x=y/\num r<num s):=by
 simp only[num,hl];have h1:=cL r;have h2:=cL s;rw[hl]at h1;generalize 256^s.length=p at h1 h2⊢;rcases Ea x.toNat y.toNat with h|h|h
 ·have:=du p (show x.toNat+1<=y.toNat from h)
  rw[c9]at this;simp only[h,true_or,iff_true];omega
 ·have:x=y:=jv.1 h;subst this;simp
 ·have:=du p (show y.toNat+1<=x.toNat from h)
  rw[c9]at this;have hne:x≠y:=fun e=>by subst e;omega
  simp only[hne,false_and,or_false];omega
theorem iE (hb:Canon b) (h:a.length<b.length):num a<num b:=by
 have h1:=cL a;have h2:=ou hb (by intro e;subst e;simp at h)
 exact bH h1 (fZ (dF (by decide) (by omega)) h2)
theorem Jl {α:Type} (l m:List α) (x y:α):(l++x::m).set l.length y=l++y::m:=by simp
theorem HV (k:Nat):(List.replicate (k+1) (0:UInt8))=List.replicate k 0++[0]:=by rw[DV]
theorem ir (hi:i<n) (c:UInt8) (b:Bytes):(List.replicate (n-i) (0:UInt8)++b).set (n-1-i) c=List.replicate (n-(i+1)) 0++(c::b):=by
 obtain⟨k,rfl⟩: ∃k,n=k+i+1:=⟨n-i-1,by omega⟩
 rw[show k+i+1-i=k+1 by omega,show k+i+1-1-i=k by omega,show k+i+1-(i+1)=k by omega,HV]
 have:=Jl (List.replicate k (0:UInt8)) b 0 c;simpa using this
end Go.Dom
namespace Go.Dom
open Go
variable {R a b j k n v:Nat} {f g:Nat->Nat}
def dv (x k:Nat):Nat:=x/256^k%256
def xD (x:Int) (k:Nat):Int:=x/256^k%256
theorem xE (x k:Nat):xD x k=(dv x k:Nat):=by
 unfold xD dv;rw[Int.natCast_emod,Int.natCast_ediv,Int.natCast_pow];rfl
theorem Is (x:Int) (k:Nat):0<=xD x k/\xD x k<256:=⟨gK _ (by decide),gT _ (by decide)⟩
theorem KA (i:Nat):(0:Int)<256^i:=Int.pow_pos (by decide)
def cy (U V a:Int) (i:Nat):Int:=(U%256^i+a*(V%256^i))/256^i
theorem Iq (U V a:Int):cy U V a 0=0:=by simp[cy,Int.emod_one]
theorem GG (U V a:Int) (i:Nat):(U+a*V)/256^i=cy U V a i+(U/256^i+a*(V/256^i)):=by
 have hB:=KA i;unfold cy;have e1:=nV U (256^i);have e2:=nV V (256^i);have e:U+a*V=(U%256^i+a*(V%256^i))+256^i*(U/256^i+a*(V/256^i)):=by
  rw[mD,Ej (256^i) a];have:a*V=a*(V%256^i)+a*(256^i*(V/256^i)):=by rw[<-mD,e2]
  omega
 rw[e,yB _ _ (Int.ne_of_gt hB)]
theorem QR (U V a:Int) (i:Nat):cy U V a (i+1)=(xD U i+a*xD V i+cy U V a i)/256:=by
 have hB:=KA i;have h (W:Int):W%256^(i+1)=W%256^i+256^i*xD W i:=by
  unfold xD;refine((D9 (q:=W/256^i/256) (KA (i+1))).2 ⟨?_,?_,?_⟩).2
  ·have e1:=nV W (256^i);have e2:=nV (W/256^i) 256;have:256^i*(W/256^i)=256^i*(W/256^i%256)+256^i*(256*(W/256^i/256)):=by rw[<-mD,e2]
   rw[Int.pow_succ,mF];omega
  ·have:=gK W (Int.ne_of_gt hB);have:=Int.mul_nonneg (Int.le_of_lt hB) (gK (W/256^i) (by decide:(256:Int)≠0))
   omega
  ·have h1:=gT W hB;have h2:=gT (W/256^i) (by decide:(0:Int)<256)
   have h3:256^i*(W/256^i%256)<=256^i*255:=Int.mul_le_mul_of_nonneg_left (by omega) (Int.le_of_lt hB)
   rw[Int.pow_succ];omega
 have e:U%256^(i+1)+a*(V%256^(i+1))=(U%256^i+a*(V%256^i))+256^i*(xD U i+a*xD V i):=by
  rw[h U,h V,mD,mD,Ej a];omega
 show(_+ _)/ _= _;rw[e,Int.pow_succ,<-Int.ediv_ediv_of_nonneg (Int.le_of_lt hB),yB _ _ (Int.ne_of_gt hB)];congr 1;unfold cy;omega
theorem Ip (U V a:Int) (i:Nat):xD U i+a*xD V i+cy U V a i=256*cy U V a (i+1)+xD (U+a*V) i:=by
 have h1:=QR U V a i;have h2:=GG U V a i;have e:xD (U+a*V) i=(xD U i+a*xD V i+cy U V a i)%256:=by
  unfold xD;rw[h2];have e1:=nV (U/256^i) 256;have e2:=nV (V/256^i) 256;have e3:a*(V/256^i)=a*(V/256^i%256)+256*(a*(V/256^i/256)):=by
   rw[Ej,<-mD,e2]
  have:cy U V a i+(U/256^i+a*(V/256^i))=(U/256^i%256+a*(V/256^i%256)+cy U V a i)+256*(U/256^i/256+a*(V/256^i/256)):=by omega
  rw[this,ri]
 rw[h1,e];omega
theorem Nc {D:Nat} (hn:1<=n) (h1:128*256^(n-1)<=D) (h2:D<256^n) (hR:R<256*D):
  128<=dv D (n-1)/\R/D<=(dv R n*256+dv R (n-1))/dv D (n-1)/\R/D<=255:=by
 obtain⟨k,rfl⟩: ∃k,n=k+1:=⟨n-1,by omega⟩
 rw[jw]at h1⊢;have hB:0<256^k:=gR (by decide)
 rw[Nat.pow_succ]at h2;have hD0:0<D:=by omega
 have v1:D/256^k<256:=by rw[iC hB];omega
 have v2:128<=D/256^k:=(uO hB).2 h1;have v3:dv D k=D/256^k:=bY v1;have u1:R/256^k<65536:=by rw[iC hB];omega
 have u3:dv R (k+1)*256+dv R k=R/256^k:=by
  unfold dv;rw[Nat.pow_succ,<-eZ];clear v1 v2 v3 h1 h2;generalize R/256^k=y at*;omega
 rw[v3,u3];have hRD:R/D<256:=by
  rw[iC hD0];exact hR
 refine⟨v2,?_,by omega⟩
 rw[uO (by omega),uO hB,cF]
 exact fZ (je _ (q9 _ _)) (q9 _ _)
theorem EI (x i s:Nat) (hs:s<=7):dv (x*2^s) (i+1)=dv x (i+1)*2^s%256+dv x i/2^(8-s):=by
 unfold dv;have hB:0<256^i:=gR (by decide)
 obtain⟨y,hy⟩: ∃y,y=x/256^i:=⟨_,rfl⟩;obtain⟨e,he,hlt⟩: ∃e,x*2^s/256^i=y*2^s+e/\e<2^s:=by
  refine⟨x%256^i*2^s/256^i,?_,?_⟩
  ·have:x*2^s=x%256^i*2^s+256^i*(y*2^s):=by
    rw[<-cF,<-c9,hy,Nat.mod_add_div]
   rw[this,nQ _ _ hB,ij]
  ·rw[iC hB,bO];exact Jn (aL _ hB) (gR (by decide))
 rw[Nat.pow_succ,<-eZ,<-eZ,he,<-hy];clear hy he hB;obtain rfl|rfl|rfl|rfl|rfl|rfl|rfl|rfl:s=0\/s=1\/s=2\/s=3\/s=4\/s=5\/s=6\/s=7:=by omega
 all_goals simp only[Nat.pow_zero,Nat.reducePow,Nat.reduceSub]at hlt⊢;omega
theorem BN (x s:Nat):dv (x*2^s) 0=dv x 0*2^s%256:=by
 unfold dv;rw[Nat.pow_zero,iR,iR,jz]
theorem GK (x i s:Nat) (hs:s<=7):(dv x i+dv x (i+1)*256)/2^s%256=dv (x/2^s) i:=by
 unfold dv;rw[eZ,bO (2^s),<-eZ,Nat.pow_succ,<-eZ];generalize x/256^i=y;obtain rfl|rfl|rfl|rfl|rfl|rfl|rfl|rfl:s=0\/s=1\/s=2\/s=3\/s=4\/s=5\/s=6\/s=7:=by omega
 all_goals simp only[Nat.pow_zero,Nat.reducePow];omega
theorem pL (x k:Nat):dv x k<256:=aL _ (by decide)
theorem GJ {x:Nat} (h:x<256^k):dv x k=0:=by unfold dv;rw[iD h]
def dl (N:Nat) (f:Nat->Nat):List Nat:=(List.range N).map f
theorem mR (N:Nat) (f:Nat->Nat):(dl N f).length=N:=by simp[dl]
theorem vE {N:Nat} (h:k<N):(dl N f).getD k 0=f k:=by simp[dl,bu,h]
theorem zh {N:Nat} (h: ∀k,k<N->f k=g k):dl N f=dl N g:=lD fun k hk=>h k (dV.1 hk)
theorem CP {N:Nat} {p:Nat} (hv:p<N->g p=v) (h: ∀k,k<N->k≠p->g k=f k):(dl N f).set p v=dl N g:=by
 refine qV (by simp[dl]) fun k h1 h2=> ?_
 have hk:k<N:=by simpa[dl]using h2
 rw[DQ]
 by_cases hp:p=k
 ·subst hp;simp[dl,hv hk]
 ·rw[ae hp];simp[dl,h k hk (fun e=>hp e.symm)]
def dX (f:Nat->Nat) (j i:Nat) (X:Int) (k:Nat):Nat:=if j<=k/\k<j+i then(xD X (k-j)).toNat else f k
theorem Ir (f:Nat->Nat) (j:Nat) (X:Int):dX f j 0 X=f:=by funext k;unfold dX;rw[ae (by omega)]
theorem MB {N:Nat} (f:Nat->Nat) (j i:Nat) (X:Int) (hv:(v:Int)=xD X i):(dl N (dX f j i X)).set (i+j) v=dl N (dX f j (i+1) X):=by
 refine CP (fun _=> ?_) fun k _ hk=> ?_
 ·unfold dX;rw[ah (by omega),show i+j-j=i by omega,<-hv,Int.toNat_natCast]
 ·unfold dX
  by_cases h:j<=k/\k<j+i
  ·rw[ah h,ah (by omega)]
  ·rw[ae h,ae (by omega)]
theorem Te (f:Nat->Nat) (j i:Nat) (X:Int):dX f j i X (i+j)=f (i+j):=by unfold dX;rw[ae (by omega)]
theorem Xo (f:Nat->Nat) {i:Nat} (X:Int) (h:i<n):((dX f j n X (i+j):Nat):Int)=xD X i:=by
 unfold dX;rw[ah (by omega),show i+j-j=i by omega]
 have:=(Is X i).1;omega
theorem US (f:Nat->Nat) (j n:Nat) (X:Int):dX f j n X (j+n)=f (j+n):=by unfold dX;rw[ae (by omega)]
theorem QT {X:Nat} (hR:R<256^(j+n+1)) (hX:X<256^n) (k:Nat):(if k=j+n then 0 else dX (dv R) j n X k)=dv (X*256^j+R%256^j) k:=by
 have hj:0<256^j:=gR (by decide)
 have hlo:R%256^j<256^j:=aL _ hj
 by_cases hk:k<j
 ·rw[ae (by omega),dX,ae (by omega)]
  obtain⟨d,rfl⟩: ∃d,j=k+1+d:=⟨j-k-1,by omega⟩
  have e1:X*256^(k+1+d)+R%256^(k+1+d)=R%256^(k+1+d)+256^(k+1)*(256^d*X):=by
   rw[<-cF,<-cZ,bO X];omega
  have e2 (Y:Nat):dv Y k=Y%256^(k+1)/256^k:=by
   unfold dv;rw[Nat.pow_succ,rh]
  rw[e2,e2,e1,xV,uz _ (DW 256 (by omega))]
 ·obtain⟨d,rfl⟩: ∃d,k=j+d:=⟨k-j,by omega⟩
  have e:dv (X*256^j+R%256^j) (j+d)=dv X d:=by
   unfold dv;rw[cZ,<-eZ,ij,bO X,nQ _ _ hj,iD hlo,dq]
  rw[e]
  by_cases hd:d=n
  ·subst hd;rw[ah rfl,GJ hX]
  ·rw[ae (by omega)]
   unfold dX
   by_cases hdn:d<n
   ·rw[ah (by omega),Nat.add_sub_cancel_left,xE,Int.toNat_natCast]
   ·rw[ae (by omega),GJ (bH hX (dF (by decide) (by omega))),GJ (bH hR (dF (by decide) (by omega)))]
theorem C2 (h:a<9223372036854775808):mU .i64 (a:Int) 255=((a%256:Nat):Int):=by
 unfold mU;have h1:(BitVec.ofInt 64 (a:Int)&&&BitVec.ofInt 64 255).toNat=a%256:=by
  rw[BitVec.toNat_and,BitVec.ofInt_natCast,kU,show(BitVec.ofInt 64 255).toNat=2^8-1 from rfl,bY (by omega),Jq]
 show IntKind.i64.wrap ((BitVec.ofInt 64 (a:Int)&&&BitVec.ofInt 64 255).toNat:Int)= _;rw[h1,IntWalk.i64_in _ (by omega)]
theorem Xv (ha:a<9223372036854775808) (hb:b<9223372036854775808):GM .i64 (a:Int) (b:Int)=((a|||b:Nat):Int):=by
 unfold GM;have h1:(BitVec.ofInt 64 (a:Int)|||BitVec.ofInt 64 (b:Int)).toNat=a|||b:=by
  rw[BitVec.toNat_or,BitVec.ofInt_natCast,BitVec.ofInt_natCast,kU,kU,bY (by omega),bY (by omega)]
 show IntKind.i64.wrap ((BitVec.ofInt 64 (a:Int)|||BitVec.ofInt 64 (b:Int)).toNat:Int)= _;have h2:a|||b<2^63:=Nat.or_lt_two_pow (by omega) (by omega)
 rw[h1,IntWalk.i64_in _ (by omega)]
theorem orS {a b s:Nat} (hs:s<=8) (ha:a<256) (hb:b<2^s):GM .i64 ((a*2^s:Nat):Int) (b:Int)=((a*2^s+b:Nat):Int):=by
 have h1:2^s<=2^8:=dF (by decide) hs
 have h2:a*2^s<=256*2^8:=j8 (ku ha) h1;rw[Xv (by omega) (by omega),bO,<-Jt hb]
theorem orL (ha:a<256) (hb:b<256):GM .i64 (b:Int) ((a*256:Nat):Int)=((b+a*256:Nat):Int):=by
 rw[Xv (by omega) (by omega),Nat.or_comm,bO,<-Jt (i:=8) hb]
 omega
