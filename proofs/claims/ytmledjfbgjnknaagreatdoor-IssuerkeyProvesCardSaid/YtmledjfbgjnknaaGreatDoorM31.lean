/-
  Part of the proof, part 31. Own work.
-/
import Derived.Test.YtmledjfbgjnknaaGreatDoorM30
import Derived.Test.YtmledjfbgjnknaaGreatDoorM26
set_option linter.all false
namespace Go.Proofs.YtmledjfbgjnknaaGreatDoor
open Go Go.Dom Go.Num
set_option maxRecDepth 100000
set_option maxHeartbeats 8000000
theorem rFormed_ok (a:Bytes):EvP Tryz.prog 364 [.s a] (.b (validN a)):=by
 rw[validN_eq];refine eW Tryz.call364 Tryz.func364 ?_;repeat' first|simp only[go_sem,seval]|refine sB ?_|(first|apply pX|apply bX)<;>intro hc|refine⟨oD,?_⟩|exact oD|fail
 all_goals simp_all
 all_goals first|omega|(cases a<;>simp_all)
theorem num_take_mod {a:Bytes} {i:Nat} (h:i<a.length):(num (a.take i)%18446744073709551616*256%18446744073709551616+(a.getD i 0).toNat)%18446744073709551616=num (a.take (i+1))%18446744073709551616:=by
 rw[num_take_succ h];omega
theorem rU_ok (a:Bytes) (la:a.length<1099511627776):EvP Tryz.prog 365 [.s a] (.tup [.i .u64 (num a%18446744073709551616:Nat), .b (decide (a.length≤8))]):=by
 refine eW Tryz.call365 Tryz.func365 ?_;repeat' first|simp only[go_sem,seval]|refine sB ?_|(first|apply pX|apply bX)<;>intro hc|refine⟨oD,?_⟩|exact oD|fail
 refine loop_run (α:=Nat) (fun i=>a.length-i) (fun i=>⟨[(0, .v (.s a)),(4, .v (.i .u64 (num (a.take i)%18446744073709551616:Nat))),(5, .v (.i .i64 i))],[],_⟩) (fun i=>i≤a.length) 0 (fun _=>Nat.le_refl _) (Nat.zero_le _) ?_ ?_
 ·(refine AS.Le.of (by first|decide|omega) ?_ ?_<;>simp[LeT,LeH,tget,hget,AV.bd,AV.bd.bdL,u8,bd_cellsOf,bcells_bd,icells_bd])
  all_goals rfl
 ·intro i hi R hR
  by_cases hlt:i<a.length
  ·have h1:=num_take_mod hlt;have hgo:=hR (i+1) (by omega) (by omega)
   rw[←h1]at hgo;clear h1 hR;obtain⟨u,hu⟩: ∃u,u=num (a.take i)%18446744073709551616:=⟨_,rfl⟩;have hul:u<18446744073709551616:=by rw[hu];exact Nat.mod_lt _ (by decide)
   rw[←hu]at hgo⊢;have hw1: ∀ _:True,IntKind.u64.wrap ((u:Int)*256)=((u*256%18446744073709551616:Nat):Int):=fun _=>by rw[wu64];omega
   have hw2: ∀x:Nat,IntKind.u64.wrap (((u*256%18446744073709551616:Nat):Int)+(x:Int))=(((u*256%18446744073709551616+x)%18446744073709551616:Nat):Int):=fun x=>by rw[wu64];omega
   have hwb: ∀c:UInt8,IntKind.u64.wrap ((c.toNat:Nat):Int)=((c.toNat:Nat):Int):=fun c=>IntWalk.u64_in _ (by have:=c.toNat_lt;omega)
   repeat' first|simp only[go_sem,seval,hw1 trivial,hw2,hwb]|refine sB ?_|(first|apply pX|apply bX)<;>intro hc|refine⟨oD,?_⟩|exact oD|fail
   refine hgo _ ?_;exact lE
  ·obtain rfl:i=a.length:=by omega
   rw[List.take_length];have hd:decide ((a.length:Int)≤8)=decide (a.length≤8):=by rw[Bool.eq_iff_iff];simp only[decide_eq_true_eq];omega
   repeat' first|simp only[go_sem,seval,hd]|refine sB ?_|(first|apply pX|apply bX)<;>intro hc|refine⟨oD,?_⟩|exact oD|fail
theorem rAddMod_ok {a b m:Nat} (ha:a<m) (hb:b<m) (hm:m<18446744073709551616):EvP Tryz.prog 470 [.i .u64 a, .i .u64 b, .i .u64 m] (.i .u64 ((a+b)%m:Nat)):=by
 by_cases h:m≤a+b
 ·have e:(a+b)%m=a+b-m:=by rw[Nat.mod_eq_sub_mod h,Nat.mod_eq_of_lt (by omega)]
  rw[e];refine eW Tryz.call470 Tryz.func470 ?_;repeat' first|simp only[go_sem,seval]|refine sB ?_|(first|apply pX|apply bX)<;>intro hc|refine⟨oD,?_⟩|exact oD|fail
  all_goals first|rfl|(congr 1;omega)
 ·have e:(a+b)%m=a+b:=Nat.mod_eq_of_lt (by omega)
  rw[e];refine eW Tryz.call470 Tryz.func470 ?_;repeat' first|simp only[go_sem,seval]|refine sB ?_|(first|apply pX|apply bX)<;>intro hc|refine⟨oD,?_⟩|exact oD|fail
  all_goals first|rfl|(congr 1;omega)
theorem rMulMod_ok {a b m:Nat} (ha:a<m) (hb:b<m) (hm:m<18446744073709551616):EvP Tryz.prog 455 [.i .u64 a, .i .u64 b, .i .u64 m] (.i .u64 (a*b%m:Nat)):=by
 by_cases h32:m<4294967296
 ·have hlt:a*b<4294967296*4294967296:=Nat.mul_lt_mul'' (by omega) (by omega)
  have hw: ∀ _:True,IntKind.u64.wrap ((a:Int)*(b:Int))=((a*b:Nat):Int):=fun _=>by rw[←Int.natCast_mul,IntWalk.u64_in _ (by omega)]
  clear hlt;refine eW Tryz.call455 Tryz.func455 ?_;repeat' first|simp only[go_sem,seval,hw trivial]|refine sB ?_|(first|apply pX|apply bX)<;>intro hc|refine⟨oD,?_⟩|exact oD|fail
  all_goals skip
 ·refine eW Tryz.call455 Tryz.func455 ?_;repeat' first|simp only[go_sem,seval]|refine sB ?_|(first|apply pX|apply bX)<;>intro hc|refine⟨oD,?_⟩|exact oD|fail
  refine loop_run (α:=Nat×Nat×Nat) (fun s=>s.2.2) (fun s=>⟨[(0,U s.2.1),(1,U s.2.2),(2,U m),(7,U s.1)],[],_⟩) (fun s=>s.1<m∧s.2.1<m∧s.2.2<18446744073709551616∧(s.1+s.2.1*s.2.2)%m=a*b%m) (0,a,b) (fun _=>Nat.le_refl _) ⟨by show 0<m;omega,ha,by show b< _;omega,by simp⟩ ?_ ?_
  ·exact lE
  ·rintro⟨u,x,y⟩ ⟨hu,hx,hy,he⟩ R hR;simp only at hu hx hy he
   by_cases h0:y=0
   ·subst h0;rw[Nat.mul_zero,Nat.add_zero,Nat.mod_eq_of_lt hu]at he;repeat' first|simp only[go_sem,seval]|refine sB ?_|(first|apply pX|apply bX)<;>intro hc|refine⟨oD,?_⟩|exact oD|fail
    rw[he]
   ·have a1:=rAddMod_ok hu hx hm;have a2:=rAddMod_ok hx hx hm;have hm1:(u+x)%m<m:=Nat.mod_lt _ (by omega)
    have hm2:(x+x)%m<m:=Nat.mod_lt _ (by omega)
    have hy2:((y:Int)).tmod 2=((y%2:Nat):Int):=rfl;have hyd:y/2≤y:=Nat.div_le_self _ _;have hxx: ∀k,(x+x)%m*k%m=x*(2*k)%m:=fun k=>by rw[Nat.mod_mul_mod,←Nat.two_mul,Nat.mul_comm 2 x,Nat.mul_assoc]
    rcases(show y%2=1∨y%2=0 by omega)with g|g
    ·have he2:((u+x)%m+(x+x)%m*(y/2))%m=a*b%m:=by
      rw[←he,Nat.add_mod,hxx,Nat.mod_mod,←Nat.add_mod];have:x*y=x+x*(2*(y/2)):=by
       have:y=1+2*(y/2):=by omega
       conv=>lhs;rw[this,Nat.mul_add,Nat.mul_one]
      rw[this];congr 1;omega
     have hgo:=hR ((u+x)%m,(x+x)%m,y/2) ⟨hm1,hm2,by show y/2< _;omega,he2⟩ (by show y/2<y;omega)
     clear he he2 hR hxx;repeat' first|simp only[go_sem,seval,hy2,g]|refine cP a1 ?_|refine cP a2 ?_|refine sB ?_|(first|apply pX|apply bX)<;>intro hc|refine⟨oD,?_⟩|exact oD|fail
     refine hgo _ ?_;exact lE
    ·have he2:(u+(x+x)%m*(y/2))%m=a*b%m:=by
      rw[←he,Nat.add_mod,hxx,←Nat.add_mod];have:x*y=x*(2*(y/2)):=by congr 1;omega
      rw[this]
     have hgo:=hR (u,(x+x)%m,y/2) ⟨hu,hm2,by show y/2< _;omega,he2⟩ (by show y/2<y;omega)
     clear he he2 hR hxx;repeat' first|simp only[go_sem,seval,hy2,g]|refine cP a1 ?_|refine cP a2 ?_|refine sB ?_|(first|apply pX|apply bX)<;>intro hc|refine⟨oD,?_⟩|exact oD|fail
     refine hgo _ ?_;exact lE
theorem rExpMod_ok {a e m:Nat} (ha:a<m) (he:e<18446744073709551616) (hm:m<18446744073709551616):EvP Tryz.prog 454 [.i .u64 a, .i .u64 e, .i .u64 m] (.i .u64 (a^e%m:Nat)):=by
 have h0:0<m:=by omega
 have e1:(1:Int).tmod (m:Int)=((1%m:Nat):Int):=rfl;refine eW Tryz.call454 Tryz.func454 ?_;repeat' first|simp only[go_sem,seval,e1]|refine sB ?_|(first|apply pX|apply bX)<;>intro hc|refine⟨oD,?_⟩|exact oD|fail
 refine loop_run (α:=Nat×Nat×Nat) (fun s=>s.2.2) (fun s=>⟨[(0,U s.2.1),(1,U s.2.2),(2,U m),(7,U s.1)],[],_⟩) (fun s=>s.1<m∧s.2.1<m∧s.2.2<18446744073709551616∧s.1*s.2.1^s.2.2%m=a^e%m) (1%m,a,e) (fun _=>Nat.le_refl _) ⟨Nat.mod_lt _ h0,ha,he,by show 1%m*a^e%m= _;rw[Nat.mod_mul_mod,Nat.one_mul]⟩ ?_ ?_
 ·(refine AS.Le.of (by first|decide|omega) ?_ ?_<;>simp[LeT,LeH,tget,hget,AV.bd,AV.bd.bdL,u8,bd_cellsOf,bcells_bd,icells_bd])
  all_goals first|rfl|skip
 ·rintro⟨u,x,y⟩ ⟨hu,hx,hy,hq⟩ R hR;simp only at hu hx hy hq
  by_cases h1:y=0
  ·subst h1;rw[Nat.pow_zero,Nat.mul_one,Nat.mod_eq_of_lt hu]at hq;repeat' first|simp only[go_sem,seval]|refine sB ?_|(first|apply pX|apply bX)<;>intro hc|refine⟨oD,?_⟩|exact oD|fail
   rw[hq]
  ·have a1:=rMulMod_ok hu hx hm;have a2:=rMulMod_ok hx hx hm;have hm1:u*x%m<m:=Nat.mod_lt _ h0;have hm2:x*x%m<m:=Nat.mod_lt _ h0;have hy2:((y:Int)).tmod 2=((y%2:Nat):Int):=rfl;have hyd:y/2≤y:=Nat.div_le_self _ _;rcases(show y%2=1∨y%2=0 by omega)with g|g
   ·have hgo:=hR (u*x%m,x*x%m,y/2) ⟨hm1,hm2,by show y/2< _;omega,by show u*x%m*(x*x%m)^(y/2)%m= _;rw[powOdd g,hq]⟩ (by show y/2<y;omega)
    clear hq hR;repeat' first|simp only[go_sem,seval,hy2,g]|refine cP a1 ?_|refine cP a2 ?_|refine sB ?_|(first|apply pX|apply bX)<;>intro hc|refine⟨oD,?_⟩|exact oD|fail
    refine hgo _ ?_;exact lE
   ·have hgo:=hR (u,x*x%m,y/2) ⟨hu,hm2,by show y/2< _;omega,by show u*(x*x%m)^(y/2)%m= _;rw[powEven g,hq]⟩ (by show y/2<y;omega)
    clear hq hR;repeat' first|simp only[go_sem,seval,hy2,g]|refine cP a1 ?_|refine cP a2 ?_|refine sB ?_|(first|apply pX|apply bX)<;>intro hc|refine⟨oD,?_⟩|exact oD|fail
    refine hgo _ ?_;exact lE
def sqL (n:Nat):Nat→Nat→Bool
 |0,_=>false
 |r+1,x=>x==n-1||sqL n r (x*x%n)
theorem sqL_eq (n:Nat): ∀r x,sqL n (r+1) x=(x==n-1||sqs r x n)
 |0,x=>rfl
 |r+1,x=>by rw[sqL,sqL_eq n r];rfl
theorem rStrong_ok {n a:Nat} (hn:n<18446744073709551616) (h3:3≤n) (hodd:n%2=1) (ha:a<n) (ha0:a≠0):EvP Tryz.prog 428 [.i .u64 n, .i .u64 a] (.b (strong n (tzF 64 (n-1)) ((n-1)/2^tzF 64 (n-1)) a)):=by
 have e1: ∀ _:True,((n:Int)-1)=((n-1:Nat):Int):=fun _=>by omega
 have e2:(n:Int).tmod 2=((n%2:Nat):Int):=rfl;obtain⟨T,hT⟩: ∃T,T=tzF 64 (n-1):=⟨_,rfl⟩;rw[←hT];have hT0:T≠0:=by
  rw[hT];unfold tzF;rw[if_neg (by omega)];omega
 refine eW Tryz.call428 Tryz.func428 ?_;repeat' first|simp only[go_sem,seval,e1 trivial,e2,hodd]|refine sB ?_|(first|apply pX|apply bX)<;>intro hc|refine⟨oD,?_⟩|exact oD|fail
 refine loop_run (α:=Nat×Nat) (fun s=>s.1) (fun s=>⟨[(0,U n),(1,U a),(5,U s.1),(6,E' s.2)],[],_⟩) (fun s=>0<s.1∧s.1<18446744073709551616∧s.2≤64∧s.1<2^(64-s.2)∧s.1=(n-1)/2^s.2∧tzF (64-s.2) s.1+s.2=T) (n-1,0) (fun _=>Nat.le_refl _) ⟨by show 0<n-1;omega,by show n-1< _;omega,by show 0≤64;omega,by show n-1<2^64;omega,by show n-1= _;rw[Nat.pow_zero,Nat.div_one],by rw[hT];rfl⟩ ?_ ?_
 ·exact lE
 ·rintro⟨d,s⟩ ⟨hd0,hd1,hs,hds,hde,ht⟩ R hR;simp only at hd0 hd1 hs hds hde ht;have ed:(d:Int).tmod 2=((d%2:Nat):Int):=rfl;have hs64:s<64:=by
   rcases Nat.lt_or_ge s 64 with g|g
   ·exact g
   ·obtain rfl:s=64:=by omega
    simp at hds;omega
  obtain⟨f,hf⟩: ∃f,64-s=f+1:=⟨63-s,by omega⟩
  rw[hf]at hds ht;unfold tzF at ht
  by_cases hev:d%2=0
  ·rw[if_neg (by omega)]at ht
   have hdl:d/2≤d:=Nat.div_le_self _ _;have hgo:=hR (d/2,s+1) ⟨by show 0<d/2;omega,by show d/2< _;omega,by show s+1≤64;omega,by
    show d/2<2^(64-(s+1));rw[show 64-(s+1)=f by omega];rw[Nat.pow_succ]at hds;omega,by
    show d/2=(n-1)/2^(s+1);rw[Nat.pow_succ,←Nat.div_div_eq_div_mul,←hde],by
    show tzF (64-(s+1)) (d/2)+(s+1)=T;rw[show 64-(s+1)=f by omega];omega⟩ (by show d/2<d;omega)
   clear hR ht;repeat' first|simp only[go_sem,seval,ed,hev]|refine sB ?_|(first|apply pX|apply bX)<;>intro hc|refine⟨oD,?_⟩|exact oD|fail
   refine hgo _ ?_;exact lE
  ·have hev:d%2=1:=by omega
   rw[if_pos hev,Nat.zero_add]at ht;subst ht;rw[←hde];have hx:=rExpMod_ok (a:=a) (e:=d) (m:=n) ha hd1 hn;have es:strong n s d a=(a^d%n==1||sqL n s (a^d%n)):=by
    unfold strong;rw[Nat.mod_eq_of_lt ha];obtain⟨r,hr⟩: ∃r,s=r+1:=⟨s-1,by omega⟩
    rw[hr,sqL_eq,Nat.add_sub_cancel,Bool.or_assoc]
   rw[es];obtain⟨x,hxx⟩: ∃x,x=a^d%n:=⟨_,rfl⟩;have hxl:x<n:=by rw[hxx];exact Nat.mod_lt _ (by omega)
   rw[←hxx]at hx⊢;clear hR es hde hxx
   by_cases hx1:x=1
   ·subst hx1;repeat' first|simp only[go_sem,seval,ed,hev]|refine cP hx ?_|refine sB ?_|(first|apply pX|apply bX)<;>intro hc|refine⟨oD,?_⟩|exact oD|fail
    all_goals skip
   have hb1:(x==1)=false:=by simpa using hx1
   have hb2:((x:Int)==1)=false:=by rw[beq_eq_false_iff_ne];omega
   rw[hb1,Bool.false_or];repeat' first|simp only[go_sem,seval,ed,hev,hb2]|refine cP hx ?_|refine sB ?_|(first|apply pX|apply bX)<;>intro hc|refine⟨oD,?_⟩|exact oD|fail
   refine loop_run (α:=Nat×Nat) (fun s'=>s-s'.1) (fun s'=>⟨[(0,U n),(6,E' s),(7,U s'.2),(8,E' s'.1)],[],_⟩) (fun s'=>s'.1≤s∧s'.2<n∧sqL n (s-s'.1) s'.2=sqL n s x) (0,x) (fun _=>Nat.le_refl _) ⟨Nat.zero_le _,hxl,rfl⟩ ?_ ?_
   ·exact lE
   ·rintro⟨i,z⟩ ⟨hi,hz,hq⟩ R hR;simp only at hi hz hq;rw[←hq]
    by_cases hlt:i<s
    ·have hmm:=rMulMod_ok hz hz hn;have hzz:z*z%n<n:=Nat.mod_lt _ (by omega)
     obtain⟨r,hr⟩: ∃r,s-i=r+1:=⟨s-i-1,by omega⟩
     have hgo:=hR (i+1,z*z%n);rw[hr]at hq⊢;simp only[sqL]at hq⊢
     by_cases hzn:z=n-1
     ·have hb: ∀ _:True,((z:Int)==((n-1:Nat):Int))=true:=fun _=>by rw[hzn];simp
      have hb':(z==n-1)=true:=by simpa using hzn
      rw[hb',Bool.true_or];clear hq hgo hR;repeat' first|simp only[go_sem,seval,e1 trivial,hb trivial]|refine sB ?_|(first|apply pX|apply bX)<;>intro hc|refine⟨oD,?_⟩|exact oD|fail
     ·have hb: ∀ _:True,((z:Int)==((n-1:Nat):Int))=false:=fun _=>by rw[beq_eq_false_iff_ne];omega
      have hb':(z==n-1)=false:=by simpa using hzn
      rw[hb',Bool.false_or]at hq⊢;rw[←hq]at hgo;have hgo:=hgo ⟨by show i+1≤s;omega,hzz,by show sqL n (s-(i+1)) _= _;rw[show s-(i+1)=r by omega]⟩ (by show s-(i+1)<s-i;omega)
      clear hq hR;repeat' first|simp only[go_sem,seval,e1 trivial,hb trivial]|refine cP hmm ?_|refine sB ?_|(first|apply pX|apply bX)<;>intro hc|refine⟨oD,?_⟩|exact oD|fail
      refine hgo _ ?_;exact lE
    ·obtain rfl:i=s:=by omega
     rw[Nat.sub_self];repeat' first|simp only[go_sem,seval]|refine sB ?_|(first|apply pX|apply bX)<;>intro hc|refine⟨oD,?_⟩|exact oD|fail
     all_goals rfl
theorem rBGet {i:Nat} (h:i<12):(List.map (fun n:Nat=>PV.i .u64 (n:Int)) bases12).getD i .fn0= .i .u64 (bases12.getD i 0:Nat):=by
 have h2:i<bases12.length:=h;simp[List.getD_eq_getElem?_getD,h2]
theorem rIsU_ok {n:Nat} (hn:n<18446744073709551616):EvP Tryz.prog 366 [.i .u64 n] (.b (isMR n)):=by
 by_cases h2:n<2
 ·have e:isMR n=false:=by simp[isMR,h2]
  rw[e];refine eW Tryz.call366 Tryz.func366 ?_;repeat' first|simp only[go_sem,seval]|refine sB ?_|(first|apply pX|apply bX)<;>intro hc|refine⟨oD,?_⟩|exact oD|fail
 obtain⟨B,hB⟩: ∃B,B=List.map (fun n:Nat=>PV.i .u64 (n:Int)) bases12:=⟨_,rfl⟩
 have hBl:B.length=12:=by rw[hB];rfl
 have hBe: ∀ _:True,[PV.i .u64 2, .i .u64 3, .i .u64 5, .i .u64 7, .i .u64 11, .i .u64 13, .i .u64 17, .i .u64 19, .i .u64 23, .i .u64 29, .i .u64 31, .i .u64 37]=B:=fun _=>by rw[hB];rfl
 have hBc: ∀x∈B,x.cells.length=1:=by
  rw[hB];intro x hx;obtain⟨c,-,rfl⟩:=List.mem_map.1 hx;rfl
 have hBg: ∀{i:Nat},i<12→B.getD i .fn0= .i .u64 (bases12.getD i 0:Nat):=fun h=>by rw[hB];exact rBGet h
 clear hB;refine eW Tryz.call366 Tryz.func366 ?_;repeat' first|simp only[go_sem,seval,hBe trivial]|refine sB ?_|(first|apply pX|apply bX)<;>intro hc|refine⟨oD,?_⟩|exact oD|fail
 refine loop_run (α:=Nat) (fun i=>12-i) (fun i=>⟨[(0,U n),(3, .fs B),(4,E' i)],[],_⟩) (fun i=>i≤12∧bases12.find? (fun p=>n%p==0)=(bases12.drop i).find? (fun p=>n%p==0)) 0 (fun _=>Nat.le_refl _) ⟨by omega,rfl⟩ ?_ ?_
 ·exact lE
 ·rintro i ⟨hi,hf⟩ R hR
  by_cases hlt:i<12
  ·have g1:=hBg hlt;obtain⟨q0,q1⟩:=bPos hlt;rw[bDrop hlt]at hf;have hmc: ∀q:Nat,(n:Int).tmod (q:Int)=((n%q:Nat):Int):=fun q=>rfl
   generalize bases12.getD i 0=q at*
   by_cases hq:n=q
   ·have hz:(n%q==0)=true:=by rw[hq];simp
    rw[List.find?_cons,hz]at hf;have e:isMR n=true:=by
     unfold isMR;rw[if_neg h2,hf];simpa using hq
    rw[e];repeat' first|simp only[go_sem,seval,hBl,g1,hmc]|refine sB ?_|(first|apply pX|apply bX)<;>intro hc|refine⟨oD,?_⟩|exact oD|fail
   ·by_cases hz0:n%q=0
    ·have hz:(n%q==0)=true:=by simpa using hz0
     rw[List.find?_cons,hz]at hf;have e:isMR n=false:=by
      unfold isMR;rw[if_neg h2,hf];simpa using hq
     rw[e];repeat' first|simp only[go_sem,seval,hBl,g1,hmc,hz0]|refine sB ?_|(first|apply pX|apply bX)<;>intro hc|refine⟨oD,?_⟩|exact oD|fail
    ·have hz:(n%q==0)=false:=by simpa using hz0
     rw[List.find?_cons,hz]at hf;have hgo:=hR (i+1) ⟨by omega,hf⟩ (by omega)
     repeat' first|simp only[go_sem,seval,hBl,g1,hmc]|refine sB ?_|(first|apply pX|apply bX)<;>intro hc|refine⟨oD,?_⟩|exact oD|fail
     refine hgo _ ?_;exact lE
  ·obtain rfl:i=12:=by omega
   have hf:bases12.find? (fun p=>n%p==0)=none:=hf
   have hnd: ∀q∈bases12,n%q≠0:=fun q hq=>by simpa using List.find?_eq_none.1 hf q hq
   have key:isMR n=bases12.all (strong n (tzF 64 (n-1)) ((n-1)/2^tzF 64 (n-1))):=by
    unfold isMR;rw[if_neg h2,hf]
   have h37:37<n:=by
    rcases Nat.lt_or_ge 37 n with g|g
    ·exact g
    ·exfalso
     have: ∀k:Fin 38,2≤k.val→ ∃q∈bases12,k.val%q=0:=by decide
     obtain⟨q,hq1,hq2⟩:=this ⟨n,by omega⟩ (by show 2≤n;omega)
     exact hnd q hq1 hq2
   have hodd:n%2=1:=by have:=hnd 2 (by decide);omega
   rw[key];have hst:=fun a (h1:a<38) (h0:a≠0)=>rStrong_ok (a:=a) hn (by omega) hodd (by omega) h0
   clear key hf hnd hR;generalize strong n (tzF 64 (n-1)) ((n-1)/2^tzF 64 (n-1))=st at*;repeat' first|simp only[go_sem,seval,hBl]|refine sB ?_|(first|apply pX|apply bX)<;>intro hc|refine⟨oD,?_⟩|exact oD|fail
   refine loop_run (α:=Nat) (fun i=>12-i) (fun i=>⟨[(0,U n),(3, .fs B),(5,E' i)],[],_⟩) (fun i=>i≤12∧bases12.all st=(bases12.drop i).all st) 0 (fun _=>Nat.le_refl _) ⟨by omega,rfl⟩ ?_ ?_
   ·exact lE
   ·rintro i ⟨hi,hf⟩ R hR
    by_cases hlt:i<12
    ·have g1:=hBg hlt;obtain⟨q0,q1⟩:=bPos hlt;rw[bDrop hlt,List.all_cons]at hf;have hR1:=hR (i+1);generalize bases12.getD i 0=q at*;have hs:=hst q q1 (by omega)
     cases hsq:st q
     ·rw[hsq]at hs hf;rw[hf,Bool.false_and];repeat' first|simp only[go_sem,seval,hBl,g1]|refine cP hs ?_|refine sB ?_|(first|apply pX|apply bX)<;>intro hc|refine⟨oD,?_⟩|exact oD|fail
     ·rw[hsq]at hs hf;rw[Bool.true_and]at hf;have hgo:=hR1 ⟨by omega,hf⟩ (by omega)
      repeat' first|simp only[go_sem,seval,hBl,g1]|refine cP hs ?_|refine sB ?_|(first|apply pX|apply bX)<;>intro hc|refine⟨oD,?_⟩|exact oD|fail
      refine hgo _ ?_;exact lE
    ·obtain rfl:i=12:=by omega
     have e:bases12.all st=true:=hf;rw[e];repeat' first|simp only[go_sem,seval,hBl]|refine sB ?_|(first|apply pX|apply bX)<;>intro hc|refine⟨oD,?_⟩|exact oD|fail
theorem rIs_ok (a:Bytes) (la:a.length<1099511627776):EvP Tryz.prog 266 [.s a] (.tup [.b (validN a&&decide (a.length≤8)&&isMR (num a)),E (if validN a then(if a.length≤8 then 0 else 5)else 3)]):=by
 have hf:=rFormed_ok a;have hu:=rU_ok a la
 by_cases hv:validN a=true
 ·rw[hv]at hf⊢
  by_cases h8:a.length≤8
  ·have hn:=num8 h8;rw[decide_eq_true h8,Nat.mod_eq_of_lt hn]at hu;have hi:=rIsU_ok hn;rw[decide_eq_true h8,if_pos rfl,if_pos h8];generalize isMR (num a)=b at*;refine eW Tryz.call266 Tryz.func266 ?_;repeat' first|simp only[go_sem,seval]|refine cP hf ?_|refine cP hu ?_|refine cP hi ?_|refine sB ?_|(first|apply pX|apply bX)<;>intro hc|refine⟨oD,?_⟩|exact oD|fail
   all_goals simp_all
  ·rw[decide_eq_false h8]at hu⊢;rw[if_pos rfl,if_neg h8];refine eW Tryz.call266 Tryz.func266 ?_;repeat' first|simp only[go_sem,seval]|refine cP hf ?_|refine cP hu ?_|refine sB ?_|(first|apply pX|apply bX)<;>intro hc|refine⟨oD,?_⟩|exact oD|fail
   all_goals simp_all
 ·have hv:validN a=false:=by simpa using hv
  rw[hv]at hf⊢;refine eW Tryz.call266 Tryz.func266 ?_;repeat' first|simp only[go_sem,seval]|refine cP hf ?_|refine sB ?_|(first|apply pX|apply bX)<;>intro hc|refine⟨oD,?_⟩|exact oD|fail
  all_goals simp_all
end Go.Proofs.YtmledjfbgjnknaaGreatDoor
namespace Go.Proofs.YtmledjfbgjnknaaGreatDoor
open Go Go.Dom Go.Num
set_option maxRecDepth 100000
set_option maxHeartbeats 16000000
theorem dGeF {a b:Nat} (h:a<b):decide (cmpN a b≥0)=false:=decide_eq_false (fun g=>by have:=cmpN_ge.1 g;omega)
theorem dGeT {a b:Nat} (h:b≤a):decide (cmpN a b≥0)=true:=decide_eq_true (cmpN_ge.2 h)
theorem dLt (a b:Nat):decide (cmpN a b<0)=decide (a<b):=by rw[Bool.eq_iff_iff];simp only[decide_eq_true_eq];exact cmpN_lt
theorem r9form_ok (m o:Bytes):EvP Tryz.prog 265 [G m o] (.b (validN m&&validN o)):=by
 have v1:=rValid_ok m;have v2:=rValid_ok o;refine eW Tryz.call265 Tryz.func265 ?_;repeat' first|simp only[go_sem,seval]|refine cP v1 ?_|refine cP v2 ?_|refine sB ?_|(first|apply pX|apply bX)<;>intro hc|refine⟨oD,?_⟩|exact oD|fail
 all_goals simp_all
theorem r9divides_ok {m o:Bytes} (vm:validN m=true) (vo:validN o=true) (h0:0<num o):EvP Tryz.prog 267 [G m o] (.b (!(m==[])&&decide ((num m-1)%num o=0))):=by
 have lm:=len_of vm;have lo:=len_of vo
 by_cases hm:m=[]
 ·subst hm;refine eW Tryz.call267 Tryz.func267 ?_;repeat' first|simp only[go_sem,seval,nn]|refine sB ?_|(first|apply pX|apply bX)<;>intro hc|refine⟨oD,?_⟩|exact oD|fail
  all_goals rfl
 have hb:(m==([]:Bytes))=false:=by simpa using hm
 have hp:=num_pos (canon_of vm) hm;have h1:=rMinus_ok m [1] (by omega) (by decide) hp
 rw[show num ([1]:Bytes)=1 from rfl]at h1
 have h2:=rOver_ok (a:=bts (num m-1)) (b:=o) (bts_canon _) (canon_of vo) h0 (by
  have:(bts (num m-1)).length≤128:=lim_len.2 (by have:=num_of vm;unfold LIM;omega)
  omega) (by omega)
 rw[num_bts]at h2;have hz: ∀ _:True,(bts ((num m-1)%num o)==([]:Bytes))=decide ((num m-1)%num o=0):=fun _=>by
  rw[Bool.eq_iff_iff];simp[bts_nil]
 rw[hb];refine eW Tryz.call267 Tryz.func267 ?_;repeat' first|simp only[go_sem,seval,hb,hz trivial]|refine cP h1 ?_|refine cP h2 ?_|refine sB ?_|(first|apply pX|apply bX)<;>intro hc|refine⟨oD,?_⟩|exact oD|fail
 all_goals simp
theorem r9Check_ok (m o:Bytes):EvP Tryz.prog 145 [G m o] (E (pgE m o)):=by
 have hf:=r9form_ok m o
 by_cases hv:validN m=true∧validN o=true
 case neg=>
  have e:(validN m&&validN o)=false:=by rw[Bool.eq_false_iff];intro g;simp at g;exact hv g
  rw[e]at hf;have e2:pgE m o=3:=by simp[pgE,e]
  rw[e2];refine eW Tryz.call145 Tryz.func145 ?_;repeat' first|simp only[go_sem,seval]|refine cP hf ?_|refine sB ?_|(first|apply pX|apply bX)<;>intro hc|refine⟨oD,?_⟩|exact oD|fail
 obtain⟨v1,v2⟩:=hv;have lm:=len_of v1;have lo:=len_of v2;have hm:=rIs_ok m (by omega)
 have ho:=rIs_ok o (by omega)
 rw[v1,v2]at hf;rw[v1]at hm;rw[v2]at ho;simp only[Bool.true_and,if_true]at hm ho
 by_cases l1:m.length≤8
 case neg=>
  have e2:pgE m o=5:=by simp[pgE,v1,v2];intro g;omega
  rw[e2];refine eW Tryz.call145 Tryz.func145 ?_;repeat' first|simp only[go_sem,seval]|refine cP hf ?_|refine sB ?_|(first|apply pX|apply bX)<;>intro hc|refine⟨oD,?_⟩|exact oD|fail
 rw[decide_eq_true l1,if_pos l1,Bool.true_and]at hm
 by_cases p1:isMR (num m)=true
 case neg=>
  have p1:isMR (num m)=false:=by simpa using p1
  have e2:pgE m o=12:=by simp[pgE,v1,v2,p1,l1]
  rw[p1]at hm;rw[e2];refine eW Tryz.call145 Tryz.func145 ?_;repeat' first|simp only[go_sem,seval]|refine cP hf ?_|refine cP hm ?_|refine sB ?_|(first|apply pX|apply bX)<;>intro hc|refine⟨oD,?_⟩|exact oD|fail
 rw[p1]at hm
 by_cases l2:o.length≤8
 case neg=>
  have e2:pgE m o=13:=by simp[pgE,v1,v2,p1,show¬8<m.length by omega,show 8<o.length by omega]
  rw[e2];refine eW Tryz.call145 Tryz.func145 ?_;repeat' first|simp only[go_sem,seval]|refine cP hf ?_|refine cP hm ?_|refine sB ?_|(first|apply pX|apply bX)<;>intro hc|refine⟨oD,?_⟩|exact oD|fail
 rw[decide_eq_true l2,if_pos l2,Bool.true_and]at ho
 by_cases p2:isMR (num o)=true
 case neg=>
  have p2:isMR (num o)=false:=by simpa using p2
  have e2:pgE m o=12:=by simp[pgE,v1,v2,p1,p2,show¬8<m.length by omega,show¬8<o.length by omega]
  rw[p2]at ho;rw[e2];refine eW Tryz.call145 Tryz.func145 ?_;repeat' first|simp only[go_sem,seval]|refine cP hf ?_|refine cP hm ?_|refine cP ho ?_|refine sB ?_|(first|apply pX|apply bX)<;>intro hc|refine⟨oD,?_⟩|exact oD|fail
 rw[p2]at ho;have h2:2≤num m:=by rcases Nat.lt_or_ge (num m) 2 with g|g;simp[isMR,g]at p1;exact g
 have h3:2≤num o:=by rcases Nat.lt_or_ge (num o) 2 with g|g;simp[isMR,g]at p2;exact g
 have hd:=r9divides_ok v1 v2 (by omega)
 have hb:(m==([]:Bytes))=false:=by simp;intro e;subst e;simp[num]at h2
 rw[hb]at hd;have e2:pgE m o=if(num m-1)%num o=0 then 0 else 13:=by simp[pgE,v1,v2,p1,p2,show¬8<m.length by omega,show¬8<o.length by omega]
 rw[e2];generalize (num m-1)%num o=z at*;refine eW Tryz.call145 Tryz.func145 ?_;repeat' first|simp only[go_sem,seval]|refine cP hf ?_|refine cP hm ?_|refine cP ho ?_|refine cP hd ?_|refine sB ?_|(first|apply pX|apply bX)<;>intro hc|refine⟨oD,?_⟩|exact oD|fail
 all_goals simp_all
theorem r9Has_ok {m:Bytes} (lm:m.length≤8) (o x:Bytes):EvP Tryz.prog 268 [G m o, .s x] (.b (pgHas m o x)):=by
 have hf:=r9form_ok m o;have vx:=rValid_ok x
 by_cases h:validN m=true∧validN o=true∧validN x=true∧o≠[]∧x≠[]
 ·obtain⟨v1,v2,v3,h4,h5⟩:=h;have e4:(o==([]:Bytes))=false:=by simpa using h4
  have e5:(x==([]:Bytes))=false:=by simpa using h5
  have hn:=num8 lm;have lx:=len_of v3;have hor:=rOrder_ok (canon_of v3) (canon_of v1) (by omega) (by omega)
  rw[v1,v2]at hf;rw[v3]at vx;have hx0:=num_pos (canon_of v3) h5
  by_cases h6:num x<num m
  ·have hE:=rExpM (a:=num x) (m:=num m) (e:=o) (by omega) v2 hn (by omega)
   rw[N_of v3,N_of v1]at hE;have hlt: ∀ _:True,decide (cmpN (num x) (num m)≥0)=false:=fun _=>dGeF (by omega)
   have e:pgHas m o x=decide (num x^num o%num m=1):=by simp[pgHas,v1,v2,v3,e4,e5,h6,Nat.mod_eq_of_lt (show 1<num m by omega)]
   rw[e];generalize num x^num o%num m=z1 at*;refine eW Tryz.call268 Tryz.func268 ?_;repeat' first|simp only[go_sem,seval,e4,e5,hlt trivial,oneF]|refine cP hf ?_|refine cP vx ?_|refine cP hor ?_|refine cP hE ?_|refine sB ?_|(first|apply pX|apply bX)<;>intro hc|refine⟨oD,?_⟩|exact oD|fail
  ·have hlt: ∀ _:True,decide (cmpN (num x) (num m)≥0)=true:=fun _=>dGeT (by omega)
   have e:pgHas m o x=false:=by simp[pgHas,h6]
   rw[e];refine eW Tryz.call268 Tryz.func268 ?_;repeat' first|simp only[go_sem,seval,e4,e5,hlt trivial]|refine cP hf ?_|refine cP vx ?_|refine cP hor ?_|refine sB ?_|(first|apply pX|apply bX)<;>intro hc|refine⟨oD,?_⟩|exact oD|fail
 ·have e:pgHas m o x=false:=by
   rw[Bool.eq_false_iff];intro g;simp[pgHas]at g;exact h ⟨g.1.1.1.1.1.1,g.1.1.1.1.1.2,g.1.1.1.1.2,g.1.1.1.2,g.1.1.2⟩
  rw[e]
  by_cases hmo:(validN m&&validN o)=true
  case neg=>
   have hmo:(validN m&&validN o)=false:=by simpa using hmo
   rw[hmo]at hf;refine eW Tryz.call268 Tryz.func268 ?_;repeat' first|simp only[go_sem,seval]|refine cP hf ?_|refine cP vx ?_|refine sB ?_|(first|apply pX|apply bX)<;>intro hc|refine⟨oD,?_⟩|exact oD|fail
  rw[hmo]at hf
  by_cases v3:validN x=true
  case neg=>
   have v3:validN x=false:=by simpa using v3
   rw[v3]at vx;refine eW Tryz.call268 Tryz.func268 ?_;repeat' first|simp only[go_sem,seval]|refine cP hf ?_|refine cP vx ?_|refine sB ?_|(first|apply pX|apply bX)<;>intro hc|refine⟨oD,?_⟩|exact oD|fail
  rw[v3]at vx
  by_cases h4:o=[]
  ·subst h4;refine eW Tryz.call268 Tryz.func268 ?_;repeat' first|simp only[go_sem,seval,nn]|refine cP hf ?_|refine cP vx ?_|refine sB ?_|(first|apply pX|apply bX)<;>intro hc|refine⟨oD,?_⟩|exact oD|fail
  ·have e4:(o==([]:Bytes))=false:=by simpa using h4
   by_cases h5:x=[]
   ·subst h5;refine eW Tryz.call268 Tryz.func268 ?_;repeat' first|simp only[go_sem,seval,nn,e4]|refine cP hf ?_|refine cP vx ?_|refine sB ?_|(first|apply pX|apply bX)<;>intro hc|refine⟨oD,?_⟩|exact oD|fail
   ·simp only[Bool.and_eq_true]at hmo;exact absurd ⟨hmo.1,hmo.2,v3,h4,h5⟩ h
theorem r9Gen_ok {m:Bytes} (lm:m.length≤8) (o x:Bytes):EvP Tryz.prog 146 [G m o, .s x] (.b (pgHas m o x&& !(x==[1]))):=by
 have h:=r9Has_ok lm o x;generalize pgHas m o x=z at*;refine eW Tryz.call146 Tryz.func146 ?_;repeat' first|simp only[go_sem,seval]|refine cP h ?_|refine sB ?_|(first|apply pX|apply bX)<;>intro hc|refine⟨oD,?_⟩|exact oD|fail
 all_goals simp_all
theorem rOf8:EvP Tryz.prog 149 [.i .u64 8] (.s [8]):=rOf_ok 8 (by decide)
theorem rOf1':EvP Tryz.prog 149 [.i .u64 1] (.s [1]):=rOf_ok 1 (by decide)
theorem rOf2:EvP Tryz.prog 149 [.i .u64 2] (.s [2]):=rOf_ok 2 (by decide)
theorem r10Good_ok (m o:Bytes):EvP Tryz.prog 368 [G m o] (.b (goodB m o)):=by
 have hv:=rValid_ok m
 by_cases h:validN m=true
 ·have hb:=rBit_ok h 0 (by decide)
  have hcm:=rCmp_ok m [8];rw[h]at hv;rw[h,show validN [8]=true from rfl,show num [8]=8 from rfl]at hcm
  have he:cmpN (num m) 8>0↔8<num m:=by unfold cmpN;split<;>(try split)<;>omega
  have h8:=rOf8;refine eW Tryz.call368 Tryz.func368 ?_;repeat' first|simp only[go_sem,seval]|refine cP hv ?_|refine cP hb ?_|refine cP h8 ?_|refine cP hcm ?_|refine sB ?_|(first|apply pX|apply bX)<;>intro hc|refine⟨oD,?_⟩|exact oD|fail
  all_goals simp_all[goodB]
 ·have h:validN m=false:=by simpa using h
  rw[h]at hv;have e:goodB m o=false:=by simp[goodB,h]
  rw[e];refine eW Tryz.call368 Tryz.func368 ?_;repeat' first|simp only[go_sem,seval]|refine cP hv ?_|refine sB ?_|(first|apply pX|apply bX)<;>intro hc|refine⟨oD,?_⟩|exact oD|fail
theorem r10Has_ok {m:Bytes} (lm:m.length≤8) (o x:Bytes):EvP Tryz.prog 272 [G m o, .s x] (.b (rHas m o x)):=by
 have hg:=r10Good_ok m o;have hv:=rValid_ok x;have h1':=rOf1'
 by_cases h:goodB m o=true∧validN x=true∧x≠[]∧num x<num m
 ·obtain⟨h1,h2,h3,h4⟩:=h;have hm:validN m=true:=by simp[goodB]at h1;exact h1.1.1.1
  have hcm:=rCmp_ok x m;rw[h2,hm]at hcm;simp only[Bool.and_self,if_true]at hcm;have hgc:=rGcd_ok h2 hm;rw[h1]at hg;rw[h2]at hv;have hx:(x==([]:Bytes))=false:=by simpa using h3
  have hlt: ∀ _:True,decide (cmpN (num x) (num m)≥0)=false:=fun _=>dGeF (by omega)
  have e:rHas m o x=decide (Nat.gcd (num x) (num m)=1):=by simp[rHas,h1,h2,hx,h4]
  rw[e];refine eW Tryz.call272 Tryz.func272 ?_;repeat' first|simp only[go_sem,seval,hx,hlt trivial,oneF]|refine cP hg ?_|refine cP hv ?_|refine cP hcm ?_|refine cP hgc ?_|refine cP h1' ?_|refine sB ?_|(first|apply pX|apply bX)<;>intro hc|refine⟨oD,?_⟩|exact oD|fail
  all_goals first|rfl|simp|skip
 ·have e:rHas m o x=false:=by
   rw[Bool.eq_false_iff];intro g;simp[rHas]at g;exact h ⟨g.1.1.1.1,g.1.1.1.2,g.1.1.2,g.1.2⟩
  rw[e]
  by_cases h1:goodB m o=true
  case neg=>
   have h1:goodB m o=false:=by simpa using h1
   rw[h1]at hg;refine eW Tryz.call272 Tryz.func272 ?_;repeat' first|simp only[go_sem,seval]|refine cP hg ?_|refine cP hv ?_|refine sB ?_|(first|apply pX|apply bX)<;>intro hc|refine⟨oD,?_⟩|exact oD|fail
  have hm:validN m=true:=by simp[goodB]at h1;exact h1.1.1.1
  rw[h1]at hg
  by_cases h2:validN x=true
  case neg=>
   have h2:validN x=false:=by simpa using h2
   rw[h2]at hv;refine eW Tryz.call272 Tryz.func272 ?_;repeat' first|simp only[go_sem,seval]|refine cP hg ?_|refine cP hv ?_|refine sB ?_|(first|apply pX|apply bX)<;>intro hc|refine⟨oD,?_⟩|exact oD|fail
  rw[h2]at hv
  by_cases h3:x=[]
  ·subst h3;refine eW Tryz.call272 Tryz.func272 ?_;repeat' first|simp only[go_sem,seval,nn]|refine cP hg ?_|refine cP hv ?_|refine sB ?_|(first|apply pX|apply bX)<;>intro hc|refine⟨oD,?_⟩|exact oD|fail
  have hx:(x==([]:Bytes))=false:=by simpa using h3
  have hcm:=rCmp_ok x m;rw[h2,hm]at hcm;simp only[Bool.and_self,if_true]at hcm;have hlt: ∀ _:True,decide (cmpN (num x) (num m)≥0)=true:=fun _=>dGeT (by by_cases g:num m≤num x;exact g;exact absurd ⟨h1,h2,h3,by omega⟩ h)
  refine eW Tryz.call272 Tryz.func272 ?_;repeat' first|simp only[go_sem,seval,hx,hlt trivial]|refine cP hg ?_|refine cP hv ?_|refine cP hcm ?_|refine sB ?_|(first|apply pX|apply bX)<;>intro hc|refine⟨oD,?_⟩|exact oD|fail
theorem r11unit_ok {m:Bytes} (lm:m.length≤8) (o x:Bytes):EvP Tryz.prog 150 [G m o, .s x] (.b (rHas m o x&& !(x==[1]))):=by
 have h:=r10Has_ok lm o x;have h1':=rOf1';generalize rHas m o x=z at*;refine eW Tryz.call150 Tryz.func150 ?_;repeat' first|simp only[go_sem,seval]|refine cP h ?_|refine cP h1' ?_|refine sB ?_|(first|apply pX|apply bX)<;>intro hc|refine⟨oD,?_⟩|exact oD|fail
 all_goals simp_all
theorem r11less_ok {x y:Bytes} (h:validN x=true) (g:validN y=true):EvP Tryz.prog 148 [.s x, .s y] (.b (decide (num x<num y))):=by
 have hc:=rCmp_ok x y;rw[h,g]at hc;simp only[Bool.and_self,if_true]at hc;have e: ∀ _:True,decide (cmpN (num x) (num y)<0)=decide (num x<num y):=fun _=>dLt _ _
 refine eW Tryz.call148 Tryz.func148 ?_;repeat' first|simp only[go_sem,seval,e trivial]|refine cP hc ?_|refine sB ?_|(first|apply pX|apply bX)<;>intro hc|refine⟨oD,?_⟩|exact oD|fail
theorem r11Bad (p:Par) (h:p.nums.all validN=false):EvP Tryz.prog 61 [p.pv] (E 3):=by
 have hn:=Numbers_ok p;obtain⟨c,sl,mm,mo,mg,mh,wm,wo,wg,wh,se,at',ha,el,es,bl,ma⟩:=p;unfold Par.pv Par.nums Par.nums2 at*;simp only[List.map_cons,List.map_nil]at*;refine eW Tryz.call61 Tryz.func61 ?_;repeat' first|simp only[go_sem,seval,List.getD_cons_zero,List.getD_cons_succ]|refine cP hn ?_|refine cP (rValid_ok _) ?_|(refine loop_unroll' ?_)|refine sB ?_|(first|apply pX|apply bX)<;>intro hc|refine⟨oD,?_⟩|exact oD|fail
 all_goals (exfalso;simp_all)
theorem r11Good (p:Par) (h:p.nums.all validN=true) (hs:p.short):EvP Tryz.prog 61 [p.pv] (E (parE p)):=by
 have hn:=Numbers_ok p;have lw:p.wm.length≤8:=hs _ (by simp[Par.nums])
 have lm:p.mm.length≤8:=hs _ (by simp[Par.nums])
 have la:p.at'.length≤8:=hs _ (by simp[Par.nums])
 have u1:=r11unit_ok lw p.wo p.wg;have u2:=r11unit_ok lw p.wo p.wh;have c1:=r9Check_ok p.mm p.mo;have c2:=r9Gen_ok lm p.mo p.mg;have c3:=r9Gen_ok lm p.mo p.mh;have hoE:p.mo=[]→pgE p.mm p.mo≠0:=by
  intro e;rw[e];unfold pgE
  split<;>(try split)<;>(try split)<;>simp_all[isMR,num]
 have hwr: ∀x,(p.wo≠[]∨(num p.wm).testBit 0=false∨ ¬8<num p.wm)→(rHas p.wm p.wo x&& !(x==[1]))=false:=by
  intro x hx;rw[Bool.eq_false_iff];intro g;simp only[rHas,goodB,Bool.and_eq_true,beq_iff_eq,decide_eq_true_eq]at g;rcases hx with h1|h1|h1
  ·exact h1 g.1.1.1.1.1.1.1.2
  ·rw[h1]at g;exact absurd g.1.1.1.1.1.1.2 (by simp)
  ·exact h1 g.1.1.1.1.1.2
 have hw1:=hwr p.wg;have hw2:=hwr p.wh;clear hwr;unfold parE;rw[h];generalize (rHas p.wm p.wo p.wg&& !(p.wg==[1]))=b1 at*;generalize (rHas p.wm p.wo p.wh&& !(p.wh==[1]))=b2 at*;generalize (pgHas p.mm p.mo p.mg&& !(p.mg==[1]))=b3 at*;generalize (pgHas p.mm p.mo p.mh&& !(p.mh==[1]))=b4 at*;generalize pgE p.mm p.mo=e1 at*;clear hs;obtain⟨c,sl,mm,mo,mg,mh,wm,wo,wg,wh,se,at',ha,el,es,bl,ma⟩:=p;unfold Par.pv Par.nums Par.tens Par.nums2 at*;simp only[List.map_cons,List.map_nil,List.all_cons,List.all_nil,Bool.and_eq_true,Bool.and_true]at*;obtain⟨h1,h2,h3,h4,h5,h6,h7,h8,h9,h10,h11,h12,h13,h14,h15,h16,h17⟩:=h;have v1:=rValid_ok c;have v2:=rValid_ok sl;have v3:=rValid_ok se;have v4:=rValid_ok at';have v5:=rValid_ok ha;have v6:=rValid_ok el;have v7:=rValid_ok es;have v8:=rValid_ok bl;have v9:=rValid_ok ma;have v10:=rValid_ok mm;have v11:=rValid_ok mo;have v12:=rValid_ok mg;have v13:=rValid_ok mh;have v14:=rValid_ok wm;have v15:=rValid_ok wo;have v16:=rValid_ok wg;have v17:=rValid_ok wh;rw[h1]at v1;rw[h2]at v2;rw[h3]at v3;rw[h4]at v4;rw[h5]at v5;rw[h6]at v6;rw[h7]at v7;rw[h8]at v8;rw[h9]at v9;rw[h10]at v10;rw[h11]at v11;rw[h12]at v12;rw[h13]at v13;rw[h14]at v14;rw[h15]at v15;rw[h16]at v16;rw[h17]at v17;have z2:validN [2]=true:=rfl;have z8:validN [8]=true:=rfl;have d1:=r11less_ok h1 z2;have d2:=r11less_ok h2 z2;have d3:=r11less_ok h3 z2;have d4:=r11less_ok h4 z2;have d5:=r11less_ok h5 z2;have d6:=r11less_ok h6 z2;have d7:=r11less_ok h7 z2;have d8:=r11less_ok h8 z2;have d9:=r11less_ok h9 z2;rw[show num ([2]:Bytes)=2 from rfl]at d1 d2 d3 d4 d5 d6 d7 d8 d9
 have d10:=r11less_ok z8 h14;rw[show num ([8]:Bytes)=8 from rfl]at d10
 have hm8:EvP Tryz.prog 151 [.s [8], .s at'] (.tup [N (num at'*8),E 0]):=by
  have:=rMul_ok [8] at';have hl:8*num at'<LIM:=Nat.lt_of_lt_of_le (show 8*num at'<18446744073709551616*8 by have:=num8 la;omega) (by unfold LIM;decide+kernel)
  rw[Nat.mul_comm (num at')];simpa only[mulB,h4,show validN [8]=true from rfl,Bool.and_self,if_true,show num [8]=8 from rfl,hl]using this
 have hv8:validN (bts (num at'*8))=true:=valid_bts (Nat.lt_of_lt_of_le (show num at'*8<18446744073709551616*8 by have:=num8 la;omega) (by decide+kernel))
 have f1:=r11less_ok h11 hv8;rw[num_bts]at f1;have f2:=r11less_ok h11 h1;have f3:=r11less_ok h11 h3;have tb:=rBit_ok h14 0 (by decide)
 have o8:=rOf8;have o2:=rOf2;generalize (num wm).testBit 0=t0 at*;generalize num at'*8=t8 at*;clear hv8 h1 h2 h3 h4 h5 h6 h7 h8 h9 h10 h11 h12 h13 h14 h15 h16 h17 z2 z8;refine eW Tryz.call61 Tryz.func61 ?_;repeat' first|simp only[go_sem,seval,List.getD_cons_zero,List.getD_cons_succ]|refine cP hn ?_|refine cP v1 ?_|refine cP v2 ?_|refine cP v3 ?_|refine cP v4 ?_|refine cP v5 ?_|refine cP v6 ?_|refine cP v7 ?_|refine cP v8 ?_|refine cP v9 ?_|refine cP v10 ?_|refine cP v11 ?_|refine cP v12 ?_|refine cP v13 ?_|refine cP v14 ?_|refine cP v15 ?_|refine cP v16 ?_|refine cP v17 ?_|refine cP o8 ?_|refine cP o2 ?_|refine cP c1 ?_|refine cP c2 ?_|refine cP c3 ?_|refine cP u1 ?_|refine cP u2 ?_|refine cP d1 ?_|refine cP d2 ?_|refine cP d3 ?_|refine cP d4 ?_|refine cP d5 ?_|refine cP d6 ?_|refine cP d7 ?_|refine cP d8 ?_|refine cP d9 ?_|refine cP d10 ?_|refine cP hm8 ?_|refine cP f1 ?_|refine cP f2 ?_|refine cP f3 ?_|refine cP tb ?_|(refine loop_unroll' ?_)|refine sB ?_|(first|apply pX|apply bX)<;>intro hc|refine⟨oD,?_⟩|exact oD|fail
 all_goals clear hn u1 u2 c1 c2 c3 v1 v2 v3 v4 v5 v6 v7 v8 v9 v10 v11 v12 v13 v14 v15 v16 v17 d1 d2 d3 d4 d5 d6 d7 d8 d9 d10 hm8 f1 f2 f3 tb o8 o2
 all_goals first|(simp_all;done)|(simp_all;omega)|skip
theorem r11Check_ok (p:Par) (hs:p.short):EvP Tryz.prog 61 [p.pv] (E (parE p)):=by
 by_cases h:p.nums.all validN=true
 ·exact r11Good p h hs
 ·have h:p.nums.all validN=false:=by simpa using h
  have e:parE p=3:=by unfold parE;rw[h];rfl
  rw[e];exact r11Bad p h
end Go.Proofs.YtmledjfbgjnknaaGreatDoor
