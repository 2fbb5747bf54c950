/- Part of the proof. -/
import Derived.Test.YtkmahpcpmgedkaaGreatDoorFC45
set_option linter.all false
set_option maxHeartbeats 16000000
set_option maxRecDepth 100000
namespace Go.Proofs.Tryz
open Go Go.Dom Go.Num
variable {A B:Bytes}
theorem qJ (n:Nat) (h:n<(2^64)):aE 18 [.i .u64 n] (N n):=by
 have h1:=ie n h;refine eW call18 func18 ?_;exact z1 @h1
theorem S8:aE 21 [.sl [.i .u64 4, .i .u64 2]] (.sl [.s [4], .s [2]]):=by
 have a:aE 18 [.i .u64 4] (.s [4]):=qJ 4 oC;have b:aE 18 [.i .u64 2] (.s [2]):=qJ 2 oC;refine eW call21 func21 ?_;exact Ps @a @b
theorem S9 {a b c:Nat} (ha:a<(2^64)) (hb:b<(2^64)) (hc:c<(2^64)):aE 21 [.sl [.i .u64 a, .i .u64 b, .i .u64 c]] (.sl [N a,N b,N c]):=by
 have a:=qJ a ha;have b:=qJ b hb;have c:=qJ c hc;refine eW call21 func21 ?_;exact Zi @a @b @c
theorem UB (a b:Bytes):aE 60 [.sl [.s a, .s b]] (.sl [.s a, .s b]):=by
 refine eW call60 func60 ?_;exact z0
theorem YV (a b:Bytes):aE 20 [.sl [.s a, .s b]] (T [a,b] [] 0):=by
 have h:=UB a b;refine eW call20 func20 ?_;exact z1 @h
theorem Ja (s:Bytes):aE 23 [.s s] (T [] s 0):=by
 refine eW call23 func23 ?_;exact z0
theorem Ti (a b c:Bytes):aE 22 [.sl [.s a, .s b, .s c], .sl [.s a, .s b, .s c]] (.b true):=by
 refine eW call22 func22 ?_;repeat' first|simp only[go_sem,seval,fY,eF,iq,bV]|(refine ai ?_)|refine oE ?_|apply xX<;>intro hc
 all_goals rfl
theorem OA {c sl ctx:Bytes} {s:cU} {w:List Int} {vs:List Bytes} {sd:Bytes} {a:Int} {ch:Bytes} {rs:List Int} {j:Nat} (h:CZ c sl ctx s w vs sd a= .ok (ch,rs,j)):rs.length=s.vars.length:=by
 obtain⟨i',ms,z,-,-,-,rfl⟩:=Dn (Fi h);exact FB ..
theorem Gp:aE 8 [] (.b true):=by
 obtain⟨⟨ch1,rs1,j1⟩,p1⟩:=Tb aaq;obtain⟨⟨ch3,rs3,j3⟩,p3⟩:=Tb aar;have k:=lO zc;have g16:GP Ar.m Ar.o (num [16]):=MU 16 oC oC oC;have s1:=Bl Ar oC oC oC oC zc (i:=1) oC oC (x:=[7]) (A:=[16]) (B:=[9]) (vs:=[]) (sd:=[97]) (a:=0) (by simp) (by simp) oC oC (by decide+kernel) (by decide+kernel) oC (by decide+kernel) (d:=18) (by decide+kernel) p1 (fun e h=>by cases h)
 have s3:=Bl Ar oC oC oC oC zc (i:=3) oC oC (x:=[]) (A:=[16]) (B:=[9]) (vs:=[]) (sd:=[98]) (a:=0) (by simp) (by simp) oC oC (by decide+kernel) (by decide+kernel) oC (by decide+kernel) (d:=1) (by decide+kernel) p3 (fun e h=>by cases h)
 have v1:=Ms k oC g16 (by decide+kernel) (by decide+kernel) p1
 have v3:=Ms k oC g16 (by decide+kernel) (by decide+kernel) p3
 have l1:rs1.length<1000:=by rw[OA p1];decide
 have l3:rs3.length<1000:=by rw[OA p3];decide
 have op:=Mt l1 l3 v1 v3;have fo:=MP (name:=[99]) (m:=[23]) (o:=[11]) oC oC oC [4] 2 (count:=3) oC (vs:=[[4],[2]]) (sd:=[]) (a:=0) (by simp) (by simp)
 rw[Xp]at fo;rw[show EB [99] [23] [11] [4] 2 [[4],[2]] [] (.ok (12,[7,9,0],2))= .tup [.agg [.s [99], .s [23], .s [11], .s [4], .s [12],E 2, .sl [.s [8], .s [13], .s [1]]], .sl [.s [7], .s [9], .s []],T [[4],[2]] [] 2,E 0] by kernel_rfl]at fo
 simp only[V8]at s1 s3;have hK:Ar.pv= .agg [.s [99], .s [23], .s [11], .s [4], .s [12],E 2, .sl [.s [8], .s [13], .s [1]]]:=rfl;rw[hK]at s1 s3 op;rw[show N 18= .s [18]from rfl]at s1
 rw[show N 1= .s [1]from rfl]at s3
 have n: ∀(x:Nat) (b:Bytes),x<(2^64)->aY x=b->aE 18 [.i .u64 x] (.s b):=fun x b hx hb=>by rw[<-hb];exact qJ x hx
 have n23:=n 23 [23] oC rfl;have n11:=n 11 [11] oC rfl;have n4:=n 4 [4] oC rfl;have n12:=n 12 [12] oC rfl;have n16:=n 16 [16] oC rfl;have n9:=n 9 [9] oC rfl;have n7:=n 7 [7] oC rfl;have n0:=n 0 [] oC rfl;have n18:=n 18 [18] oC rfl;have n1:=n 1 [1] oC rfl;have n13:=n 13 [13] oC rfl;have m1:aE 21 [.sl [.i .u64 7, .i .u64 9, .i .u64 0]] (.sl [.s [7], .s [9], .s []]):=S9 (a:=7) (b:=9) (c:=0) oC oC oC;have m2:aE 21 [.sl [.i .u64 8, .i .u64 13, .i .u64 1]] (.sl [.s [8], .s [13], .s [1]]):=S9 (a:=8) (b:=13) (c:=1) oC oC oC;have vv:=YV [4] [2];have sa:=Ja [97];have sb:=Ja [98];have q1:=Ti [7] [9] [];have q2:=Ti [8] [13] [1];simp only[show((1:Nat):Int)=1 from rfl,show((3:Nat):Int)=3 from rfl,show((23:Nat):Int)=23 from rfl,show((11:Nat):Int)=11 from rfl,show((4:Nat):Int)=4 from rfl,show((12:Nat):Int)=12 from rfl,show((16:Nat):Int)=16 from rfl,show((9:Nat):Int)=9 from rfl,show((7:Nat):Int)=7 from rfl,show((0:Nat):Int)=0 from rfl,show((18:Nat):Int)=18 from rfl,show((13:Nat):Int)=13 from rfl]at s1 s3 op n23 n11 n4 n12 n16 n9 n7 n0 n18 n1 n13
 clear p1 p3 k v1 v3 hK n;refine eW call8 func8 ?_;repeat' first|simp only[go_sem,seval,iq,lF,bV]|refine cP n23 ?_|refine cP n11 ?_|refine cP n4 ?_|refine cP S8 ?_|refine cP vv ?_|refine cP fo ?_|refine cP n12 ?_|refine cP m1 ?_|refine cP q1 ?_|refine cP m2 ?_|refine cP q2 ?_|refine cP n16 ?_|refine cP n9 ?_|refine cP n7 ?_|refine cP sa ?_|refine cP s1 ?_|refine cP n0 ?_|refine cP sb ?_|refine cP s3 ?_|refine cP op ?_|refine cP n18 ?_|refine cP n1 ?_|refine cP n13 ?_|refine oE ?_|apply xX<;>intro hc
 all_goals rfl
theorem KF (name m o g y:Bytes) (need:Int) (ln:name.length<=60) (lm:m.length<=8) (lo:o.length<=8):aE 35 [.agg [.s name, .s m, .s o, .s g, .s y,E need, .sl []]] (E (dP ⟨name,m,o,g,y,need,[]⟩)):=by
 have v1:=aK m;have v2:=aK o;have v3:=aK g;have v4:=aK y;have h3:=zT name ln;have h4:=wD lm lo g y;have h5:=Hb o oO;unfold dP;simp only[List.all_cons,List.all_nil,jK,bV,Bool.or_false,List.length_nil]
 by_cases hv:(aa m&&(aa o&&(aa g&&aa y)))=true
 case neg=>
  have hv:(aa m&&(aa o&&(aa g&&aa y)))=false:=by simpa using hv
  rw[hv];simp only[cv,ax];generalize aa m=c1 at*;generalize aa g=c3 at*;generalize aa y=c4 at*;cases c1
  ·clear h4 h5;refine eW call35 func35 ?_;repeat' first|simp only[go_sem,seval,fY,eF,bR,uD]|refine cP v1 ?_|(refine ai ?_)|refine oE ?_|apply xX<;>intro hc
   all_goals rfl
  cases hc2:aa o
  ·rw[hc2]at v2;clear h4 h5;refine eW call35 func35 ?_;exact Ps @v1 @v2
  rw[hc2]at v2 hv;cases c3
  ·clear h4 h5;refine eW call35 func35 ?_;exact Zi @v1 @v2 @v3
  cases c4
  ·clear h4 h5;refine eW call35 func35 ?_;exact Y7 @v1 @v2 @v3 @v4
  ·cases hv
 rw[hv];simp only[ba]at hv;obtain⟨vm,vo,vg,vy⟩:=hv;rw[vm]at v1;rw[vo]at v2;rw[vg]at v3;rw[vy]at v4;simp only[bV,bu,aq]
 cases hn:mi name with
 |false=>
  rw[hn]at h3;simp only[cv,ax];refine eW call35 func35 ?_;exact zu5 @v1 @v2 @v3 @v4 @h3
 |true=>
 rw[hn]at h3;simp only[bV,bu,aq]
 by_cases hk:nO m o g y=0
 case neg=>
  rw[ah hk];generalize nO m o g y=e at*;refine eW call35 func35 ?_;repeat' first|simp only[go_sem,seval,fY,eF]|refine cP v1 ?_|refine cP v2 ?_|refine cP v3 ?_|refine cP v4 ?_|(refine ai ?_)|refine cP h3 ?_|refine cP h4 ?_|refine oE ?_|apply xX<;>intro hc
  all_goals rfl
 rw[hk]at h4;rw[ae (by simpa using hk)]
 rw[vo,aJ lo,ah rfl,ah lo]at h5;simp only[cr]at h5
 cases hp:eY (num o)with
 |false=>
  rw[hp]at h5;simp only[cv,ax];refine eW call35 func35 ?_;repeat' first|simp only[go_sem,seval,fY,eF]|refine cP v1 ?_|refine cP v2 ?_|refine cP v3 ?_|refine cP v4 ?_|(refine ai ?_)|refine cP h3 ?_|refine cP h4 ?_|refine cP h5 ?_|refine oE ?_|apply xX<;>intro hc
  all_goals rfl
 |true=>
 rw[hp]at h5;simp only[bV,bu,aq];have hq2:=y8 hp;rw[ah oO];have h6:aE 55 [.i .u64 0] (N 0):=ie 0 oC;have h7:=po (aY 0) o;rw[vN (show 0<(2^64) by decide),vo,aQ]at h7
 simp only[dt,ax]at h7;have hcg:=uT 0 (num o);rw[aG (show¬(num o<=0) by omega)]at hcg
 generalize bc 0 (num o)=cm at*
 by_cases b2:need<1
 ·refine eW call35 func35 ?_;repeat' first|simp only[go_sem,seval,fY,eF,hcg]|refine cP v1 ?_|refine cP v2 ?_|refine cP v3 ?_|refine cP v4 ?_|(refine ai ?_)|refine cP h3 ?_|refine cP h4 ?_|refine cP h5 ?_|refine cP h6 ?_|refine cP h7 ?_|refine oE ?_|apply xX<;>intro hc
  all_goals rfl
 ·have b3:need>0:=oO;refine eW call35 func35 ?_;repeat' first|simp only[go_sem,seval,fY,eF,hcg]|refine cP v1 ?_|refine cP v2 ?_|refine cP v3 ?_|refine cP v4 ?_|(refine ai ?_)|refine cP h3 ?_|refine cP h4 ?_|refine cP h5 ?_|refine cP h6 ?_|refine cP h7 ?_|refine oE ?_|apply xX<;>intro hc
  all_goals rfl
theorem Fj (c:CK) (ln:c.name.length<=60) (lm:c.m.length<=8) (lo:c.o.length<=8) (ls:c.sh.length<=8):aE 35 [c.pv] (E (dP c)):=by
 by_cases h:c.sh=[]
 ·obtain⟨name,m,o,g,y,need,sh⟩:=c;simp only at h ln lm lo;subst h;exact KF name m o g y need ln lm lo
 ·exact Fk c ln lm lo ls h
def BY (x:Bytes):Bool:=decide (x.length<=12)
def Hu (c:CK):Bool:=decide (c.m.length<=8/\c.o.length<=8/\c.g.length<=12/\c.y.length<=12/\c.sh.length<=8/\c.name.length<=60)
def Cw (c:CK):Bool:=(c.sh.take 20).all BY&&Hu c
theorem JY (c:CK) (hl:c.sh.length<4611686018427387904):aE 5 [c.pv] (.b (Cw c)):=by
 unfold Cw;obtain⟨S,hS⟩: ∃S,S=Hu c:=⟨_,rfl⟩;rw[<-hS];obtain⟨name,m,o,g,y,need,sh⟩:=c;simp only[CK.pv,Hu]at*;obtain⟨n,hn⟩: ∃n,n=sh.length:=⟨_,rfl⟩;have l1:(sh.map PV.s).length=n:=by rw[aC,hn]
 refine eW call5 func5 ?_;refine qB ?_;refine af (α:=Nat) (fun i=>n-i) (fun i=>⟨[(1, .p 1000 0 0),(3,E' i)],[(1000,⟨0,[.v (.s name), .v (.s m), .v (.s o), .v (.s g), .v (.s y), .v (E need), .v (.sl (sh.map .s))],false,none⟩)],_⟩) (fun i=>i<=n/\i<=20/\((sh.drop i).take (20-i)).all BY=(sh.take 20).all BY) 0 (fun _=>aA _) ⟨aI _,aI _,rfl⟩ ?_ ?_
 ·exact lE
 ·rintro i ⟨hi,h20,hf⟩ R hR
  by_cases hlt:i<n/\i<20
  ·obtain⟨h1,h2⟩:=hlt;have e1:=eN (l:=sh) (x:=i) oO;have hgo:=fun h=>hR (i+1) ⟨oO,oO,h⟩ oO
   obtain⟨j,hj⟩: ∃j,20-i=j+1:=⟨19-i,oO⟩;rw[hj,aW [] (show i<sh.length by omega),List.take_succ_cons,List.all_cons]at hf
   rw[show 20-(i+1)=j by omega]at hgo
   have d1:decide ((i:Int)<(n:Int))=true:=aJ oO;have d2:decide ((i:Int)<20)=true:=aJ oO;generalize sh.getD i []=x at*;clear hR
   by_cases hx:x.length<=12
   ·rw[show BY x=true from aJ hx,cr]at hf
    have hgo:=hgo hf;have d3:decide ((x.length:Int)>12)=false:=aG oO;clear hf hS;exact jN (aN @l1 (aN @e1 (aN @d1 (aN @d2 @d3)))) @hgo
   ·rw[show BY x=false from aG hx,dK]at hf
    rw[<-hf,dK];have d3:decide ((x.length:Int)>12)=true:=aJ oO;clear hf hgo hS;exact gi (aN @l1 (aN @e1 (aN @d1 (aN @d2 @d3))))
  ·have hall:(sh.take 20).all BY=true:=by
    rw[<-hf]
    by_cases g:i<20
    ·rw[il oO];simp
    ·rw[show 20-i=0 by omega];rfl
   rw[hall,cr];clear hf hR
   by_cases hin:i<n
   ·have h8: ¬n<=8:=oO;have hSf:S=false:=by rw[hS,<-hn];exact aG fun h=>h8 h.2.2.2.2.1
    rw[hSf];have d1:decide ((i:Int)<(n:Int))=true:=aJ oO;have d2:decide ((i:Int)<20)=false:=aG oO;have d4:decide ((n:Int)<=8)=false:=aG oO;clear hS hall
    by_cases h1:m.length<=8
    case neg=>
     repeat' first|simp only[go_sem,seval,l1,d1,d2,d4]|refine oE ?_|apply xX<;>intro hc
     all_goals simp
    by_cases h2:o.length<=8
    case neg=>
     repeat' first|simp only[go_sem,seval,l1,d1,d2,d4]|refine oE ?_|apply xX<;>intro hc
     all_goals simp
    by_cases h3:g.length<=12
    case neg=>
     repeat' first|simp only[go_sem,seval,l1,d1,d2,d4]|refine oE ?_|apply xX<;>intro hc
     all_goals simp
    by_cases h4:y.length<=12
    case neg=>
     repeat' first|simp only[go_sem,seval,l1,d1,d2,d4]|refine oE ?_|apply xX<;>intro hc
     all_goals simp
    repeat' first|simp only[go_sem,seval,l1,d1,d2,d4]|refine oE ?_|apply xX<;>intro hc
    all_goals simp
   ·have d1:decide ((i:Int)<(n:Int))=false:=aG oO;clear hall;rw[<-hn]at hS
    by_cases h1:m.length<=8
    case neg=>
     rw[show S=false by rw[hS];exact aG fun h=>h1 h.1]
     repeat' first|simp only[go_sem,seval,l1,d1]|refine oE ?_|apply xX<;>intro hc
     all_goals simp
    by_cases h2:o.length<=8
    case neg=>
     rw[show S=false by rw[hS];exact aG fun h=>h2 h.2.1]
     repeat' first|simp only[go_sem,seval,l1,d1]|refine oE ?_|apply xX<;>intro hc
     all_goals simp
    by_cases h3:g.length<=12
    case neg=>
     rw[show S=false by rw[hS];exact aG fun h=>h3 h.2.2.1]
     repeat' first|simp only[go_sem,seval,l1,d1]|refine oE ?_|apply xX<;>intro hc
     all_goals simp
    by_cases h4:y.length<=12
    case neg=>
     rw[show S=false by rw[hS];exact aG fun h=>h4 h.2.2.2.1]
     repeat' first|simp only[go_sem,seval,l1,d1]|refine oE ?_|apply xX<;>intro hc
     all_goals simp
    by_cases h5:n<=8
    case neg=>
     rw[show S=false by rw[hS];exact aG fun h=>h5 h.2.2.2.2.1]
     repeat' first|simp only[go_sem,seval,l1,d1]|refine oE ?_|apply xX<;>intro hc
     all_goals simp
    by_cases h6:name.length<=60
    case neg=>
     rw[show S=false by rw[hS];exact aG fun h=>h6 h.2.2.2.2.2]
     have d6:decide ((name.length:Int)<=60)=false:=aG oO;repeat' first|simp only[go_sem,seval,l1,d1,d6]|refine oE ?_|apply xX<;>intro hc
     all_goals simp
    rw[show S=true by rw[hS];exact aJ ⟨h1,h2,h3,h4,h5,h6⟩]
    have d6:decide ((name.length:Int)<=60)=true:=aJ oO;repeat' first|simp only[go_sem,seval,l1,d1,d6]|refine oE ?_|apply xX<;>intro hc
    all_goals simp
theorem Nb {c:CK} {i:Int} {xs:List Bytes} (h:qi c i xs=0):1<=i/\i<=c.sh.length/\xs.all (jb c.m c.o)=true:=by
 unfold qi at h
 split at h
 ·cases h
 ·split at h
  ·cases h
  ·rename_i h1 h2;exact⟨oO,oO,by simpa using h2⟩
structure iI where
 i:Int
 d:Bytes
 ch:Bytes
 rs:List (Bool×Bytes)
 gs:List Bytes
 ls:List (List (Bool×Bytes))
def iI.pv (s:iI):PV:= .agg [E s.i, .s s.d, .s s.ch, .sl (s.rs.map cT), .sl (s.gs.map .s), .sl (s.ls.map pY)]
structure iI.UM (s:iI):Prop where
 rs:s.rs.length<1000000
 gs:s.gs.length<=1000
 ls:s.ls.length<=1000
 l1: ∀l∈s.ls,l.length<4611686018427387904
noncomputable def jQ (c:CK) (A B:Bytes) (s:iI):Int:=
 if !([A,B,s.d].all aa)then 3 else if qi c s.i [A,B,s.d]≠0 then qi c s.i [A,B,s.d]
 else vW c.o [2] (mP c s.i.toNat) (ey c s.i.toNat A s.d) s.ch s.rs s.gs s.ls
theorem Em (c:CK) (ln:c.name.length<=60) (lm:c.m.length<=8) (lo:c.o.length<=8) (ls:c.sh.length<=8) (k:Tz c) (A B:Bytes) {s:iI} (hs:s.UM):aE 47 [c.pv,HM A B,s.pv] (E (jQ c A B s)):=by
 obtain⟨i,d,ch,rs,gs,ls'⟩:=s;obtain⟨n1,n2,n3,n4⟩:=hs;have v2:=mE [A,B,d] (by simp)
 have v4:=Cm c lm lo oO i (xs:=[A,B,d]) (by simp)
 simp only[bC,bR]at v2 v4;unfold jQ;simp only[iI.pv]at*
 cases hv:[A,B,d].all aa with
 |false=>
  rw[hv]at v2;simp only[cv,ax];clear k;obtain⟨name,m,o,g,yy,need,sh⟩:=c;simp only[CK.pv]at*;refine eW call47 func47 ?_;exact z1 @v2
 |true=>
 rw[hv]at v2;simp only[bV,bu,aq]
 by_cases h4:qi c i [A,B,d]=0
 case neg=>
  rw[ah h4];generalize qi c i [A,B,d]=e at*;clear k;obtain⟨name,m,o,g,yy,need,sh⟩:=c;simp only[CK.pv]at*;refine eW call47 func47 ?_;exact z2 @v2 @v4
 obtain⟨i1,i2,hAB⟩:=Nb h4;rw[ae (by simpa using h4)]
 obtain⟨r,rfl⟩: ∃r:Nat,i=r:=⟨i.toNat,oO⟩;rw[Int.toNat_natCast];simp only[List.all_cons,List.all_nil,jK,ba]at hAB;exact Ci c ln lm lo ls k (i:=r) oO oO hv hAB.1 hAB.2.1 hAB.2.2 n1 n2 n3 n4
noncomputable def Xl (c:CK) (A B:Bytes) (s:iI):Int:=if dP c≠0 then dP c else jQ c A B s
theorem Qv (c:CK) (ln:c.name.length<=60) (lm:c.m.length<=8) (lo:c.o.length<=8) (ls:c.sh.length<=8) (A B:Bytes) {s:iI} (hs:s.UM):aE 13 [c.pv,HM A B,s.pv] (E (Xl c A B s)):=by
 have v1:=mF c ln lm lo ls;have v2:=fun k=>Em c ln lm lo ls k A B hs
 unfold Xl
 by_cases k0:dP c=0
 case neg=>
  rw[ah k0];generalize dP c=e at*;clear v2;obtain⟨name,m,o,g,yy,need,sh⟩:=c;obtain⟨i,d,ch,rs,gs,ls'⟩:=s;simp only[CK.pv,iI.pv]at*;refine eW call13 func13 ?_;exact z1 @v1
 rw[k0]at v1;rw[ae (by simpa using k0)]
 have v2:=v2 (lO k0);generalize jQ c A B s=e at*;clear k0;obtain⟨name,m,o,g,yy,need,sh⟩:=c;obtain⟨i,d,ch,rs,gs,ls'⟩:=s;simp only[CK.pv,iI.pv]at*;refine eW call13 func13 ?_;exact z2 @v1 @v2
theorem N2 {m o:Bytes} (m1:1<num m): ∀l:List (Nat×(Bool×Bytes)),(∀p∈l,GP m o p.1)->GP m o (wO (num m) l)
 |[],_=>by rw[xt,b9 m1];exact⟨m1,Nat.gcd_one_left _, .inr (by rw[qY])⟩
 |(x,e)::l,h=>by
  rw[qn];refine GP.mul ?_ (N2 m1 l fun p hp=>h p (iY _ hp))
  have hx:GP m o x:=h (x,e) (pM ..);unfold de;cases e.1
  ·exact hx.pow _
  ·exact(hx.inv m1).pow _
theorem LP {m o:Bytes} (m1:1<num m) {q:Nat} {pts gN:List Nat} (h: ∀x∈gN,GP m o x) (x:Nat):GP m o (wX (num m) q pts gN x):=N2 m1 _ fun p hp=>h _ (List.of_mem_zip hp).1
noncomputable def gF (c:CK) (A B:Bytes):List iI->Int
 |[]=>0
 |s::l=>if jQ c A B s≠0 then jQ c A B s else gF c A B l
theorem rY {c:CK}: ∀{L:List iI},gF c A B L=0-> ∀s∈L,jQ c A B s=0
 |[],_,s,hs=>by cases hs
 |a::L,h,s,hs=>by
  rw[gF]at h
  split at h
  ·rename_i h0;exact aM h h0
  ·rename_i h0;rcases cb.1 hs with rfl|hs
   ·simpa using h0
   ·exact rY h s hs
theorem qG {c:CK} {s:iI} (h:jQ c A B s=0):aa s.d=true/\aa A=true/\aa B=true/\1<=s.i/\s.i<=c.sh.length/\jb c.m c.o A=true/\jb c.m c.o B=true/\jb c.m c.o s.d=true:=by
 unfold jQ at h
 split at h
 ·cases h
 rename_i h1
 split at h
 ·rename_i h2;exact aM h h2
 rename_i h2;obtain⟨i1,i2,hAB⟩:=Nb (show qi c s.i [A,B,s.d]=0 by simpa using h2)
 have h1:([A,B,s.d].all aa)=true:=by simpa using h1
 simp only[List.all_cons,List.all_nil,jK,ba]at hAB h1;exact⟨h1.2.2,h1.1,h1.2.1,i1,i2,hAB.1,hAB.2.1,hAB.2.2⟩
def opts (L:List iI):List Nat:=L.map fun s=>s.i.toNat
def kG (L:List iI):List Nat:=L.map fun s=>num s.d
noncomputable def rG (c:CK) (A B:Bytes) (L:List iI):Int:=
 if dP c≠0 then dP c else if(L.length:Int)<c.need then 6 else if gF c A B L≠0 then gF c A B L else if !decide (opts L).Nodup then 8 else 0
noncomputable def nH (c:CK) (A B:Bytes) (L:List iI):PV:=
 if rG c A B L≠0 then .tup [.s [],E (rG c A B L)]
 else .tup [N (wO (num c.m) [(num B,(false,[1])),(wX (num c.m) (num c.o) ((opts L).take c.need.toNat) ((kG L).take c.need.toNat) 0,(true,[1]))]),E 0]
def jc:iI:=⟨0,[],[],[],[],[]⟩
theorem sj {l:List Nat} {j:Nat} (h:(l.take j).Nodup) (hj:j<l.length) (hn:l.getD j 0∉l.take j):(l.take (j+1)).Nodup:=by
 rw[cF 0 hj];exact List.nodup_append.2 ⟨h,by simp,fun a ha b hb e=>hn (by rw[<-cR.1 hb,<-e];exact ha)⟩
theorem JO (c:CK) (ln:c.name.length<=60) (lm:c.m.length<=8) (lo:c.o.length<=8) (ls:c.sh.length<=8) (A B:Bytes) {L:List iI} (hL8:L.length<=8) (hF: ∀s∈L,s.UM):aE 16 [c.pv,HM A B, .sl (L.map iI.pv)] (nH c A B L):=by
 by_cases k0:dP c=0
 case neg=>
  have v1:=mF c ln lm lo ls;unfold nH rG;rw[ah k0,ah k0];generalize dP c=e at*;obtain⟨name,m,o,g,yy,need,sh⟩:=c;simp only[CK.pv]at*;refine eW call16 func16 ?_;exact z1 @v1
 by_cases hln:(L.length:Int)<c.need
 case pos=>
  have:=JP c ln lm lo ls k0 A B (l:=L.map iI.pv) (by rw[aC];exact hln)
  have hE:rG c A B L=6:=by
   unfold rG;rw[ae (show¬dP c≠0 by simpa using k0),ah hln]
  unfold nH;rw[hE,ah oC];exact this
 have v1:=mF c ln lm lo ls;rw[k0]at v1;have k:=lO k0;obtain⟨vm,vo,m1,-,-⟩:=jf k.e;have n1:=k.n1;have n2:=k.n2;have nq:=k.nq;have hqW:=eR lo;have hW:=jo;have hcs:=fun i (hi:i<L.length)=>Em c ln lm lo ls k A B (hF _ (an jc hi))
 obtain⟨d,hd⟩: ∃d:Nat,c.need=d:=⟨c.need.toNat,oO⟩;obtain⟨n,hn⟩: ∃n,n=L.length:=⟨_,rfl⟩;rw[hd]at n1 n2 hln;rw[<-hn]at hln hcs hL8;have l1:(L.map iI.pv).length=n:=by rw[aC,hn]
 have hS:=fun i (hi:i<n)=>getD_map iI.pv L jc (i:=i) oO
 have lp:(opts L).length=n:=by rw[opts,aC,hn]
 have lel:(kG L).length=n:=by rw[kG,aC,hn]
 have hp: ∀i,i<n->(opts L).getD i 0=(L.getD i jc).i.toNat/\(kG L).getD i 0=num (L.getD i jc).d:=fun i hi=>by simp[opts,kG,br,show i<L.length by omega]
 have hgo2: ∀r,(gF c A B L≠0->r= .tup [.s [],E (gF c A B L)])->(gF c A B L=0-> ¬(opts L).Nodup->r= .tup [.s [],E 8])->(gF c A B L=0->(opts L).Nodup->r= .tup [N (wO (num c.m) [(num B,(false,[1])),(wX (num c.m) (num c.o) ((opts L).take d) ((kG L).take d) 0,(true,[1]))]),E 0])->nH c A B L=r:=fun r h1 h2 h3=>by
  unfold nH rG;rw[ae (show¬dP c≠0 by simpa using k0),ae (show¬(L.length:Int)<c.need by omega),hd,Int.toNat_natCast]
  by_cases hf:gF c A B L=0
  ·rw[ae (show¬gF c A B L≠0 by simpa using hf)]
   by_cases hN:(opts L).Nodup
   ·rw[aJ hN,h3 hf hN];rfl
   ·rw[aG hN,h2 hf hN];rfl
  ·rw[ah hf,ah hf,h1 hf]
 have hfst: ∀j,j<n->gF c A B (L.drop j)=if jQ c A B (L.getD j jc)≠0 then jQ c A B (L.getD j jc)else gF c A B (L.drop (j+1)):=fun j hj=>by
  rw[aW jc (show j<L.length by omega)];rfl
 obtain⟨R0,hR0⟩: ∃R0,R0=nH c A B L:=⟨_,rfl⟩;rw[<-hR0];have hres: ∀r,(gF c A B L≠0->r= .tup [.s [],E (gF c A B L)])->(gF c A B L=0-> ¬(opts L).Nodup->r= .tup [.s [],E 8])->(gF c A B L=0->(opts L).Nodup->r= .tup [N (wO (num c.m) [(num B,(false,[1])),(wX (num c.m) (num c.o) ((opts L).take d) ((kG L).take d) 0,(true,[1]))]),E 0])->R0=r:=fun r h1 h2 h3=>hR0.trans (hgo2 r h1 h2 h3)
 clear hgo2 hR0;have hend:gF c A B L=0->(opts L).Nodup-> ∃v r:Nat,R0= .tup [N r,E 0]/\aE 49 [.agg [.s c.m, .s c.o, .s c.g, .s c.y], .sl (((opts L).take d).map me)] (.fc 101 [] (AG c.m c.o c.g c.y ((opts L).take d)))/\aE 101 (.sl (((kG L).take d).map cZ)::E 0::AG c.m c.o c.g c.y ((opts L).take d)) (N v)/\aE 50 [G c.m c.o, .sl [.s B,N v], .sl [.agg [.b false, .s [1]], .agg [.b true, .s [1]]]] (.tup [N r,E 0]):=fun hf hN=>by
  have hall:=fun s hs=>qG (rY hf s hs)
  have hb: ∀a∈(opts L).take d,1<=a/\a<=c.sh.length:=fun a ha=>by
   obtain⟨s,hs,rfl⟩:=bm.1 (gS ha);have:=hall s hs;omega
  have he: ∀x∈(kG L).take d,GP c.m c.o x:=fun x hx=>by
   obtain⟨s,hs,rfl⟩:=bm.1 (gS hx);have:=(hall s hs).2.2.2.2.2.2.2;unfold jb at this;rw[ba]at this;exact((ct k.e).1 this.2).2
  have h0':=hall _ (an jc (show 0<L.length by omega))
  have gB:GP c.m c.o (num B):=by
   have:=h0'.2.2.2.2.2.2.1;unfold jb at this;rw[ba]at this;exact((ct k.e).1 this.2).2
  have tp:((opts L).take d).length=d:=by rw[bL];omega
  have te:((kG L).take d).length=d:=by rw[bL];omega
  have h0:(opts L).take d≠[]:=iX.1 oO;have a2:=Ch lm lo k.e k.o0 k.p c.g c.y h0 oO (hN.sublist (List.take_sublist ..)) (fun a ha=>by have:=hb a ha;omega) oO he (x:=0) oO
  have gv:GP c.m c.o (wX (num c.m) (num c.o) ((opts L).take d) ((kG L).take d) 0):=LP m1 he 0;have p1:=xd lm lo k.e (xs:=[num B,wX (num c.m) (num c.o) ((opts L).take d) ((kG L).take d) 0]) (es:=[(false,[1]),(true,[1])]) (fun x hx=>by
   simp only[cb,iD,or_false]at hx;rcases hx with rfl|rfl
   ·exact gB
   ·exact gv) (fun e he=>by
   simp only[cb,iD,or_false]at he;rcases he with rfl|rfl<;>rfl) rfl (by simp)
  refine⟨_,_,hres _ (fun h=>aM hf h) (fun _ h=>aM hN h) (fun _ _=>rfl),Gv c.m c.o c.g c.y h0 oO (fun a ha=>by have:=hb a ha;omega),a2,?_⟩
  have z1: ∀v:Nat,([num B,v]:List Nat).map cZ=[.s B,N v]:=fun v=>by
   show[N (num B),N v]= _;rw[eH h0'.2.2.1]
  rw[z1]at p1;exact p1
 have hE8:=fun h1 h2=>hres _ (fun h=>aM h1 h) (fun _ _=>rfl) (fun _ h=>aM h h2)
 have hE1:=fun h1=>hres _ (fun _=>rfl) (fun h=>aM h h1) (fun h=>aM h h1)
 have o1:aE 51 [E 1] (.agg [.b false, .s [1]]):=PO;obtain⟨pts,hpts⟩: ∃p,p=opts L:=⟨_,rfl⟩;obtain⟨gN,hels⟩: ∃p,p=kG L:=⟨_,rfl⟩;rw[<-hpts]at hp lp hend hE8;rw[<-hels]at hp lel hend;have hij: ∀i,i<n->gF c A B L=0->(L.getD i jc).i=((L.getD i jc).i.toNat:Nat):=fun i hi hf=>by
  have:=qG (rY hf _ (an jc (show i<L.length by omega)));omega
 have hdv: ∀i,i<n->gF c A B L=0->PV.s (L.getD i jc).d=N (num (L.getD i jc).d):=fun i hi hf=>by
  have:=qG (rY hf _ (an jc (show i<L.length by omega)));rw[eH this.1]
 clear hres hF hpts hels k k0;obtain⟨name,m,o,g,yy,need,sh⟩:=c;simp only[CK.pv,AG]at*;subst hd;refine eW call16 func16 ?_;refine oZ @l1 @v1 ?_;refine af (α:=Nat) (fun j=>n-j) (fun j=>⟨[(2, .v (.sl (L.map iI.pv))),(3, .p 1000 0 0),(4, .p 1001 0 0),(33, .v (.sl (L.map iI.pv))),(34,E' n),(35,E' j)],[(1000,⟨0,[.v (.s name), .v (.s m), .v (.s o), .v (.s g), .v (.s yy), .v (E d), .v (.sl (sh.map .s))],false,none⟩),(1001,⟨0,[.v (.s A), .v (.s B)],false,none⟩)],1022⟩) (fun j=>j<=n/\gF ⟨name,m,o,g,yy,d,sh⟩ A B L=gF ⟨name,m,o,g,yy,d,sh⟩ A B (L.drop j)) 0 (fun _=>bQ rfl) ⟨aI _,rfl⟩ ?_ ?_
 ·exact lE
 ·rintro j ⟨hj,hfj⟩ R hR
  by_cases hlt:j<n
  ·have e1:=hS j hlt;have c1:=hcs j hlt;have hf1:=hfst j hlt;have hgo:=fun h=>hR (j+1) ⟨hlt,h⟩ oO
   by_cases hz:jQ ⟨name,m,o,g,yy,d,sh⟩ A B (L.getD j jc)=0
   ·rw[ae (by simpa using hz)]at hf1
    have hgo:=hgo (hfj.trans hf1);rw[hz]at c1;clear hR hcs hS hp hfst hend hE8 hE1 hij hdv hz hf1 hfj;generalize L.getD j jc=s at*;obtain⟨i,dd,ch,rs,gs,ls'⟩:=s;simp only[iI.pv]at e1 c1;exact gV (aN @l1 @e1) @hgo @c1
   ·rw[ah hz]at hf1;have hE1:=hE1 (by rw[hfj,hf1];exact hz)
    rw[hfj,hf1]at hE1;clear hR hcs hS hp hfst hend hE8 hij hdv hgo hf1 hfj;generalize jQ ⟨name,m,o,g,yy,d,sh⟩ A B (L.getD j jc)=e at*;generalize L.getD j jc=s at*;obtain⟨i,dd,ch,rs,gs,ls'⟩:=s;simp only[iI.pv]at e1 c1;repeat' first|simp only[go_sem,seval,l1,e1]|refine cP c1 ?_|refine oE ?_|apply xX<;>intro hc
    all_goals exact hE1.symm
  ·obtain rfl:j=n:=oO;have hf0:gF ⟨name,m,o,g,yy,d,sh⟩ A B L=0:=by rw[hfj,il oO];rfl
   have hend:=hend hf0;have hE8:=hE8 hf0;have hij:=fun i hi=>hij i hi hf0
   have hdv:=fun i hi=>hdv i hi hf0
   clear hR hcs hfst hE1 hfj hf0;refine dH @l1 ?_;refine af (α:=Nat×Nat) (fun p=>j-p.1) (fun p=>match p.1 with|0=>⟨[(3, .p 1000 0 0),(4, .p 1001 0 0),(12, .mp 1023),(13, .sn),(14, .sn),(48, .v (.sl (L.map iI.pv))),(49,E' j),(50, .v (.i .i64 0))],[(1000,⟨0,[.v (.s name), .v (.s m), .v (.s o), .v (.s g), .v (.s yy), .v (E d), .v (.sl (sh.map .s))],false,none⟩),(1001,⟨0,[.v (.s A), .v (.s B)],false,none⟩),(1023,⟨0,l9 me (pts.take 0),false,none⟩)],1030⟩|i+1=>⟨[(3, .p 1000 0 0),(4, .p 1001 0 0),(12, .mp 1023),(13, .rs 1053 p.2 0 (p.2+1) 1),(14, .rs 1058 p.2 0 (p.2+1) 1),(48, .v (.sl (L.map iI.pv))),(49,E' j),(50,E' (i+1))],[(1000,⟨0,[.v (.s name), .v (.s m), .v (.s o), .v (.s g), .v (.s yy), .v (E d), .v (.sl (sh.map .s))],false,none⟩),(1001,⟨0,[.v (.s A), .v (.s B)],false,none⟩),(1023,⟨0,l9 me (pts.take (i+1)),false,none⟩),(1053,⟨p.2,aX me (pts.take (p.2+1)),true,some 3⟩),(1058,⟨p.2,aX cZ (gN.take (p.2+1)),true,some 22⟩)],1063⟩) (fun p=>p.1<=j/\(p.1=0\/(p.2+1=p.1/\p.1<=d)\/(p.2+1=d/\d<=p.1))/\(pts.take p.1).Nodup) (0,0) (fun p=>by obtain⟨i,-⟩:=p;cases i<;>exact bQ rfl) ⟨aI _, .inl rfl,by rw[List.take_zero];exact List.nodup_nil⟩ ?_ ?_
   ·show AS.Le _ _;rw[List.take_zero,FK];exact lE
   ·rintro⟨i,r⟩ ⟨hi,hir,hnd⟩ R hR;simp only at hi hir hnd
    cases i with
    |zero=>
     have hgo:=hR (1,0) ⟨by simp only;omega, .inr (.inl ⟨rfl,by simp only;omega⟩),sj hnd oO (by simp)⟩ (by simp only;omega)
     have e1:=hS 0 oO;obtain⟨p1',p2'⟩:=hp 0 oO;have hi0:=hij 0 oO;have hd0:=hdv 0 oO;have u1:pts.take 1=[(L.getD 0 jc).i.toNat]:=(cF 0 (show 0<pts.length by omega)).trans (by rw[p1',List.take_zero];rfl)
     have u2:gN.take 1=[num (L.getD 0 jc).d]:=(cF 0 (show 0<gN.length by omega)).trans (by rw[p2',List.take_zero];rfl)
     clear hR hS hp hend hE8 hij hdv;generalize L.getD 0 jc=s at*;obtain⟨x,dd,ch,rs,gs,ls'⟩:=s;simp only at hi0 hd0 u1 u2;obtain⟨x,rfl⟩: ∃t:Nat,x=t:=⟨_,hi0⟩;rw[Int.toNat_natCast]at u1;have u3:aX me [x]=[.v (E x)]:=rfl;have u4:aX cZ [num dd]=[.v (.s dd)]:=by rw[hd0];rfl
     simp only[iI.pv]at e1;simp only[u1,u2,u3,u4]at hgo;have m1:=qm zd x [];have m2:oJ false (.b false) (me x) (l9 me [])= .b false:=rfl;have m3:=qL (l:=[]) zd (x:=x) (by simp)
     simp only[me,List.nil_append]at m1 m2 m3;repeat' first|simp only[go_sem,seval,l1,e1,m1,m2,m3,List.take_zero]|refine oE ?_|apply xX<;>intro hc
     refine hgo _ ?_;refine lG ?_;all_goals exact fun c hc=>(xy me [x] _).mpr oT c hc
    |succ i=>
     by_cases hlt:i+1<j
     ·have e1:=hS (i+1) oO;obtain⟨p1',p2'⟩:=hp (i+1) oO;have hi0:=hij (i+1) oO;have hd0:=hdv (i+1) oO
      by_cases hm:pts.getD (i+1) 0∈pts.take (i+1)
      ·have hE8:=hE8 fun h=>BD h oO hm
       rw[p1']at hm;clear hR hS hp hend hij hdv;generalize L.getD (i+1) jc=s at*;obtain⟨x,dd,ch,rs,gs,ls'⟩:=s;simp only at hi0 hd0 hm;obtain⟨x,rfl⟩: ∃t:Nat,x=t:=⟨_,hi0⟩;rw[Int.toNat_natCast]at hm;simp only[iI.pv]at e1;have m1:=qm zd x (pts.take (i+1));have m2:oJ false (.b false) (me x) (l9 me (pts.take (i+1)))= .b true:=by rw[qM zd];simp[hm]
       simp only[me]at m1 m2;repeat' first|simp only[go_sem,seval,l1,e1,m1,m2]|refine oE ?_|apply xX<;>intro hc
       all_goals exact hE8.symm
      ·have hnd2:=sj hnd oO hm;rw[p1']at hm;have u1:pts.take (i+1+1)=pts.take (i+1)++[(L.getD (i+1) jc).i.toNat]:=by rw[cF 0 (show i+1<pts.length by omega),p1']
       have u2:r=i->gN.take (r+1+1)=gN.take (r+1)++[num (L.getD (i+1) jc).d]:=fun e=>by rw[e,cF 0 (show i+1<gN.length by omega),p2']
       have hr1:r+1<=j:=oO;have q1:=cj og (pts.take (r+1));have q2:=cj AL (gN.take (r+1));rw[bL,kj oO,db]at q1 q2;have q3:=cq og (pts.take (r+1));have q4:=cq AL (gN.take (r+1));rw[bL,kj oO,db]at q3 q4;have hgoA:=fun h=>hR (i+2,i+1) ⟨by simp only;omega, .inr (.inl ⟨rfl,h⟩),hnd2⟩ (by simp only;omega)
       have hgoB:=fun h=>hR (i+2,r) ⟨by simp only;omega, .inr (.inr h),hnd2⟩ (by simp only;omega)
       clear hR hS hp hend hE8 hij hdv;generalize L.getD (i+1) jc=s at*;obtain⟨x,dd,ch,rs,gs,ls'⟩:=s;simp only at hi0 hd0 hm u1 u2;obtain⟨x,rfl⟩: ∃t:Nat,x=t:=⟨_,hi0⟩;rw[Int.toNat_natCast]at hm u1;simp only[iI.pv]at e1;have m1:=qm zd x (pts.take (i+1));have m2:oJ false (.b false) (me x) (l9 me (pts.take (i+1)))= .b false:=by rw[qM zd];simp[hm]
       have m3:=qL zd hm
       by_cases hid:i+1<d
       ·obtain rfl:r=i:=oO;have hgo:=hgoA (by simp only;omega)
        have u2:=u2 rfl;have u3:aX me (pts.take (r+1)++[x])=aX me (pts.take (r+1))++[.v (E x)]:=bU ..;have u4:aX cZ (gN.take (r+1)++[num dd])=aX cZ (gN.take (r+1))++[.v (.s dd)]:=by rw[bU,hd0];rfl
        simp only[u1,u2,u3,u4]at hgo;simp only[me]at m1 m2 m3;clear hgoA hgoB;refine dI (aN @l1 (aN @e1 (aN @m1 (aN @m2 (aN @m3 (aN @q1 (aN @q2 (aN @q3 @q4)))))))) ?_;refine hgo _ ?_;refine lG ?_;all_goals exact⟨fun c hc=>(xy me (pts.take (r+1)++[x]) _).mpr oT c hc,fun c hc=>hc.elim (fun h=>cL h) fun h=>by rw[h];rfl,fun c hc=>hc.elim (fun h=>cL h) fun h=>by rw[h];rfl⟩
       ·have hgo:=hgoB ⟨oO,by simp only;omega⟩
        simp only[u1]at hgo;simp only[me]at m1 m2 m3;clear hgoA hgoB u2;refine dI (aN @l1 (aN @e1 (aN @m1 (aN @m2 @m3)))) ?_;refine hgo _ ?_;refine lG ?_;all_goals exact⟨fun c hc=>(xy me (pts.take (i+1)++[x]) _).mpr oT c hc,fun c hc=>cL hc,fun c hc=>cL hc⟩
     ·obtain rfl:i+1=j:=oO;obtain rfl:d=r+1:=oO;rw[cl (show pts.length<=i+1 by omega)]at hnd
      obtain⟨v,w,hR0,a1,a2,p1⟩:=hend hnd;have tp:(pts.take (r+1)).length=r+1:=by rw[bL];omega
      have te:(gN.take (r+1)).length=r+1:=by rw[bL];omega
      have q1:=cj og (pts.take (r+1));have q2:=cj AL (gN.take (r+1));have q3:=cq og (pts.take (r+1));have q4:=cq AL (gN.take (r+1));have q5:=cJ og (pts.take (r+1));have q6:=cJ AL (gN.take (r+1));have q7:=dQ og (pts.take (r+1));have q8:=dQ AL (gN.take (r+1));rw[tp,db]at q1 q3;rw[te,db]at q2 q4;rw[tp]at q5;rw[te]at q6;rw[hR0];clear hR hS hp hend hE8 hij hdv;repeat' first|simp only[go_sem,seval,l1,q1,q2,q3,q4]|(refine lf [1053] a1 rfl (by simp[aU,ay,q1,q3,q7,px]) (by simp[bz,view,ay,q1,q3,q5,q7,ec]) ?_)|(refine lf [1058] a2 rfl (by simp[aU,ay,q2,q4,q8,px]) (by simp[bz,view,ay,q2,q4,q6,q8,ec]) ?_)|refine cP o1 ?_|refine cP WV ?_|refine cP p1 ?_|refine oE ?_|apply xX<;>intro hc
      all_goals rfl
theorem Fs (c:CK) (ln:c.name.length<=60) (lm:c.m.length<=8) (lo:c.o.length<=8) (ls:c.sh.length<=8) (k:Tz c) (A B:Bytes) {s:iI} (hs:s.UM) (h24: ∀x∈s.rs,x.2.length<=24):aE 48 [c.pv,HM A B,s.pv] (E (jQ c A B s)):=by
 obtain⟨i,d,ch,rs,gs,ls'⟩:=s;obtain⟨n1,n2,n3,n4⟩:=hs;have u2:=aK A;have u3:=aK B;have u4:=aK d;have v4:=KH c lm lo (xs:=[A,B,d]) (by simp)
 have l1:(c.sh.map PV.s).length=c.sh.length:=aC ..;simp only[bC,bR]at v4;unfold jQ;simp only[iI.pv]at*
 cases hvA:aa A with
 |false=>
  rw[hvA]at u2;simp only[List.all_cons,hvA,dK,cv,ax];clear k;obtain⟨name,m,o,g,yy,need,sh⟩:=c;simp only[CK.pv]at*;refine eW call48 func48 ?_;exact z1 @u2
 |true=>
 cases hvB:aa B with
 |false=>
  rw[hvA]at u2;rw[hvB]at u3;simp only[List.all_cons,hvA,hvB,cr,dK,cv,ax];clear k;obtain⟨name,m,o,g,yy,need,sh⟩:=c;simp only[CK.pv]at*;refine eW call48 func48 ?_;exact z2 @u2 @u3
 |true=>
 cases hvd:aa d with
 |false=>
  rw[hvA]at u2;rw[hvB]at u3;rw[hvd]at u4;simp only[List.all_cons,List.all_nil,hvA,hvB,hvd,cr,dK,cv,ax];clear k;obtain⟨name,m,o,g,yy,need,sh⟩:=c;simp only[CK.pv]at*;refine eW call48 func48 ?_;exact z4 @u2 @u3 @u4 oT
 |true=>
 rw[hvA]at u2;rw[hvB]at u3;rw[hvd]at u4;simp only[List.all_cons,List.all_nil,hvA,hvB,hvd,dt,bV,bu,aq]
 by_cases hi:i<1\/i>(c.sh.length:Int)
 ·have h4:qi c i [A,B,d]=2:=by unfold qi;rw[ah hi]
  rw[h4,ah oC];clear k h4;obtain⟨name,m,o,g,yy,need,sh⟩:=c;simp only[CK.pv]at*
  by_cases h1:i<1
  ·refine eW call48 func48 ?_;exact wJ @l1 @u2 @u3 @u4 oT
  ·have h2:i>(sh.length:Int):=oO;refine eW call48 func48 ?_;exact wJ @l1 @u2 @u3 @u4 oT
 have h4:qi c i [A,B,d]=if !([A,B,d].all (jb c.m c.o))then 13 else 0:=by unfold qi;rw[ae hi]
 rw[h4]
 cases hAB:[A,B,d].all (jb c.m c.o)with
 |false=>
  rw[hAB]at v4;simp only[cv,ax,ne_eq,show¬(13:Int)=0 by decide,yc]
  have i1: ¬i<1:=fun h=>hi (.inl h)
  have i2: ¬i>(c.sh.length:Int):=fun h=>hi (.inr h)
  clear k h4 hi;obtain⟨name,m,o,g,yy,need,sh⟩:=c;simp only[CK.pv]at*;refine eW call48 func48 ?_;exact wJ @l1 @u2 @u3 @u4 @v4
 |true=>
 rw[hAB]at v4;simp only[bV,bu,aq,ne_eq,D5];obtain⟨r,rfl⟩: ∃r:Nat,i=(r+1:Nat):=⟨i.toNat-1,oO⟩;rw[Int.toNat_natCast];simp only[List.all_cons,List.all_nil,jK,ba]at hAB;have hrl:r<c.sh.length:=oO;have hAg:jz c.m c.o A=true:=by have:=hAB.1;unfold jb at this;rw[ba]at this;exact this.2
 have hdg:jz c.m c.o d=true:=by have:=hAB.2.2;unfold jb at this;rw[ba]at this;exact this.2
 have hj:=an ([]:Bytes) hrl;obtain⟨vj,gj⟩:=k.hs _ hj;have v8:=G5 c;have v9:=KG c oO (i:=r+1) oO;have w1:=KI c (i:=r+1) oO oO oO A d;have hS:=yJ k lm lo (i:=r+1) (a:=A) (d:=d) ((ct k.e).2 ⟨vj,gj⟩) hAg hdg;have hB2:=yI c lm lo (i:=r+1) (a:=A) (d:=d) (cW k.vg) (cW vj) (cW hvA) (cW hvd);have hxl:(mP c (r+1)).length<=100000:=by
  have: ∀i,i<100->(Lib.decDigits i).length<=2:=by decide+kernel
  have:=this (r+1) oO;simp[mP];omega
 have hT:TY (ey c (r+1) A d):=by
  intro q hq;simp only[ey,cb,iD,or_false]at hq;rcases hq with rfl|rfl<;>exact⟨by simp,fun t ht=>by rw[cR.1 ht];simp[Al]⟩
 have w2:=Hf hS hT hB2 (by simp[ey]) hxl (ch:=ch) (rs:=rs) (gs:=gs) (ls:=ls') n1 h24 n2 n3 n4
 have hi1: ∀ _:True,decide (((r+1:Nat):Int)<1)=false:=fun _=>aG oO
 have hi2: ∀ _:True,decide (((r+1:Nat):Int)>(c.sh.length:Int))=false:=fun _=>aG oO
 generalize vW c.o [2] (mP c (r+1)) (ey c (r+1) A d) ch rs gs ls'=E0 at*;generalize mP c (r+1)=cx at*;generalize ey c (r+1) A d=S at*;clear hS hB2 k hj hT h4 hi vj gj;obtain⟨sg,sv,se⟩:=S;obtain⟨name,m,o,g,yy,need,sh⟩:=c;simp only[CK.pv,cU.pv,xz]at*;refine eW call48 func48 ?_;exact Wm (aN @l1 (aN (hi1 oT) (hi2 oT))) @u2 @u3 @u4 @v4 @v8 @v9 @w1 @w2 oT oT oT oT
theorem RZ (c:CK) (ln:c.name.length<=60) (lm:c.m.length<=8) (lo:c.o.length<=8) (ls:c.sh.length<=8) (A B:Bytes) {s:iI} (hs:s.UM) (h24: ∀x∈s.rs,x.2.length<=24):aE 15 [c.pv,HM A B,s.pv] (E (Xl c A B s)):=by
 have v1:=Fj c ln lm lo ls;have v2:=fun k=>Fs c ln lm lo ls k A B hs h24
 unfold Xl
 by_cases k0:dP c=0
 case neg=>
  rw[ah k0];generalize dP c=e at*;clear v2;obtain⟨name,m,o,g,yy,need,sh⟩:=c;obtain⟨i,d,ch,rs,gs,ls'⟩:=s;simp only[CK.pv,iI.pv]at*;refine eW call15 func15 ?_;exact z1 @v1
 rw[k0]at v1;rw[ae (by simpa using k0)]
 have v2:=v2 (lO k0);generalize jQ c A B s=e at*;clear k0;obtain⟨name,m,o,g,yy,need,sh⟩:=c;obtain⟨i,d,ch,rs,gs,ls'⟩:=s;simp only[CK.pv,iI.pv]at*;refine eW call15 func15 ?_;exact z2 @v1 @v2
