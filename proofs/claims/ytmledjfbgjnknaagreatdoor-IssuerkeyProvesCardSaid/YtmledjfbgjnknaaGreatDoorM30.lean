/-
  Part of the proof, part 30. Own work.
-/
import Derived.Test.YtmledjfbgjnknaaGreatDoorM29
set_option linter.all false
namespace Go.Proofs.YtmledjfbgjnknaaGreatDoor
open Go Go.Dom
set_option maxRecDepth 100000
set_option maxHeartbeats 8000000
theorem w64_128r:18446744073709551616≤W128:=by decide
theorem w64_limr:18446744073709551616≤LIM:=by unfold LIM;decide+kernel
theorem rIDivModZ {x:Int} {m:Nat} (hx:x.natAbs<W128) (hm:m<W128) (h0:0<m):EvP Tryz.prog 476 [Z x,Z m] (.tup [Z (x/m),N (x%m).toNat,E 0]):=by
 have hw:=w128;have v1:=rIValidZ (x:=x) (by omega)
 have v2:=rIValidZ (x:=(m:Int)) (by omega)
 have hd:=rDivModN (a:=x.natAbs) (b:=m) (by omega) (by omega) h0
 have e0:(bts m==([]:Bytes))=false:=nilF (by omega)
 have hl:=Nat.mod_lt x.natAbs h0;have hq:x.natAbs/m≤x.natAbs:=Nat.div_le_self _ _;have h1:=rOf_ok 1 (by decide)
 by_cases hs:x<0
 ·have hz:zs x=true:=by simp[zs,hs]
  have hn:x= -(x.natAbs:Int):=by omega
  simp only[Z,hz]at v1;simp only[Z,zs_nat,zb_nat]at v2
  by_cases hr:x.natAbs%m=0
  ·obtain⟨g1,g2⟩:=zdiv_neg h0 hr;rw[←hn]at g1 g2;have hk:=rMakeZ true (x.natAbs/m) (z:=x/m) (by rw[g1];rfl)
   have e1:(bts (x.natAbs%m)==([]:Bytes))=true:=by rw[hr];rfl
   rw[g2,←hr];generalize x/(m:Int)=q at*;clear g1 g2 hn hr hw;refine eW Tryz.call476 Tryz.func476 ?_;repeat' first|simp only[go_sem,seval,Z,zs_nat,zb_nat,hz,e0,e1]|refine cP v1 ?_|refine cP v2 ?_|refine cP hd ?_|refine cP hk ?_|refine sB ?_|(first|apply pX|apply bX)<;>intro hc|refine⟨oD,?_⟩|exact oD|fail
  ·obtain⟨g1,g2⟩:=zdiv_neg' h0 hr;rw[←hn]at g1 g2;have hk:=rMakeZ true (x.natAbs/m+1) (z:=x/m) (by rw[g1];rfl)
   have e1:(bts (x.natAbs%m)==([]:Bytes))=false:=nilF hr;have ha:=rAddN (a:=x.natAbs/m) (b:=1) (by have:=w256;unfold W128 at*;omega)
   have hb:=rSubN (a:=m) (b:=x.natAbs%m) (by omega) (by omega)
   rw[g2];generalize x/(m:Int)=q at*;clear g1 g2 hn hr hw;refine eW Tryz.call476 Tryz.func476 ?_;repeat' first|simp only[go_sem,seval,Z,zs_nat,zb_nat,hz,e0,e1]|refine cP v1 ?_|refine cP v2 ?_|refine cP hd ?_|refine cP h1 ?_|refine cP ha ?_|refine cP hb ?_|refine cP hk ?_|refine sB ?_|(first|apply pX|apply bX)<;>intro hc|refine⟨oD,?_⟩|exact oD|fail
 ·have hz:zs x=false:=by simp[zs,hs]
  have hn:x=(x.natAbs:Int):=by omega
  simp only[Z,hz]at v1;simp only[Z,zs_nat,zb_nat]at v2;obtain⟨g1,g2⟩:=zdiv_pos x.natAbs m;rw[←hn]at g1 g2;have hk:=rMakeZ false (x.natAbs/m) (z:=x/m) (by rw[g1];rfl)
  rw[g2];generalize x/(m:Int)=q at*;clear g1 g2 hn hw;refine eW Tryz.call476 Tryz.func476 ?_;repeat' first|simp only[go_sem,seval,Z,zs_nat,zb_nat,hz,e0]|refine cP v1 ?_|refine cP v2 ?_|refine cP hd ?_|refine cP hk ?_|refine sB ?_|(first|apply pX|apply bX)<;>intro hc|refine⟨oD,?_⟩|exact oD|fail
theorem rIModZ {x:Int} {m:Nat} (hx:x.natAbs<W128) (hm:m<W128) (h0:0<m):EvP Tryz.prog 472 [Z x,N m] (.tup [N (x%m).toNat,E 0]):=by
 have hw:=w128;have v1:=rIValidZ (x:=x) (by omega)
 have v2:=rValid_ok (bts m);rw[vB (show m<LIM by omega)]at v2
 have hf:=rFromZ (n:=m) (by omega)
 have hd:=rIDivModZ hx hm h0;refine eW Tryz.call472 Tryz.func472 ?_;repeat' first|simp only[go_sem,seval,Z]|refine cP v1 ?_|refine cP v2 ?_|refine cP hf ?_|refine cP hd ?_|refine sB ?_|(first|apply pX|apply bX)<;>intro hc|refine⟨oD,?_⟩|exact oD|fail
theorem rBezout_ok: ∀(n a b:Nat),b≤n→a<18446744073709551616→b<18446744073709551616→ ∃g x y,Bez a b g x y∧EvP Tryz.prog 475 [N a,N b] (.tup [N g,Z x,Z y]):=by
 intro n
 induction n with
 |zero=>
  intro a b hn ha hb;obtain rfl:b=0:=by omega
  refine⟨a,1,0,Bez.base a,?_⟩;have h1:=rOf1;have h0:=rOf0;refine eW Tryz.call475 Tryz.func475 ?_;repeat' first|simp only[go_sem,seval,nilT,Z]|refine cP h1 ?_|refine cP h0 ?_|refine sB ?_|(first|apply pX|apply bX)<;>intro hc|refine⟨oD,?_⟩|exact oD|fail
 |succ n ih=>
  intro a b hn ha hb
  by_cases hb0:b=0
  ·subst hb0;exact ih a 0 (Nat.zero_le _) ha hb
  have hpos:0<b:=by omega
  have hml:=Nat.mod_lt a hpos;obtain⟨g,x,y,hz,he⟩:=ih b (a%b) (by omega) hb (by omega)
  have hst:=Bez.step hpos hz;refine⟨g,y,_,hst,?_⟩;have hq:a/b≤a:=Nat.div_le_self _ _;have w1:=w64_128r;have w2:=w64_limr;have by1:=hst.bx hpos;have bx1:x.natAbs≤b:=by
   rcases Nat.eq_zero_or_pos (a%b)with h0|h0
   ·obtain⟨rfl,-⟩:=hz.z h0;exact hpos
   ·have:=hz.bx h0;omega
  have hf:=rFromZ (n:=a/b) (by omega)
  have hm:=rIMulZ (x:=((a/b:Nat):Int)) (y:=y) (by rw[Int.natAbs_natCast];omega) (by omega)
  have hpb:(((a/b:Nat):Int)*y).natAbs<W128:=by
   rw[Int.natAbs_mul,Int.natAbs_natCast];have:a/b*y.natAbs≤a/b*b:=Nat.mul_le_mul_left _ by1;have h2:a/b*b≤a:=Nat.div_mul_le_self a b;omega
  have hs:=rISubZ (x:=x) (y:=((a/b:Nat):Int)*y) (by omega) hpb
  have hd:=rDivModN (a:=a) (b:=b) (by omega) (by omega) hpos
  have e0:=nilF hb0;generalize x-((a/b:Nat):Int)*y=u at*;generalize ((a/b:Nat):Int)*y=v at*;clear hst hz hpb by1 bx1 hq ih;refine eW Tryz.call475 Tryz.func475 ?_;repeat' first|simp only[go_sem,seval,e0,Z,zs_nat,zb_nat]|refine cP hd ?_|refine cP he ?_|refine cP hf ?_|refine cP hm ?_|refine cP hs ?_|refine sB ?_|(first|apply pX|apply bX)<;>intro hc|refine⟨oD,?_⟩|exact oD|fail
theorem rExtended_ok {a b:Nat} (ha:a<18446744073709551616) (hb:b<18446744073709551616) (h0:0<b): ∃X Y:Int,(Nat.gcd a b=1→0≤X∧X.natAbs%b=invN a b)∧X.natAbs<18446744073709551616∧EvP Tryz.prog 471 [N a,N b] (.tup [N (Nat.gcd a b),Z X,Z Y,E 0]):=by
 obtain⟨g,x,y,hz,he⟩:=rBezout_ok b a b (Nat.le_refl _) ha hb;have hg:=hz.g;have hgp:0<g:=by rw[hg];exact Nat.gcd_pos_of_pos_right _ h0
 have hgb:g≤b:=by rw[hg];exact Nat.gcd_le_right _ h0
 have hx:=hz.bx h0;have hy:=hz.by' h0
 have w1:=w64_128r;have w2:=w64_limr;have hm1:b/g≤b:=Nat.div_le_self _ _;have hk1:a/g≤a:=Nat.div_le_self _ _;have hmp:0<b/g:=Nat.div_pos hgb hgp;have v1:=rValid_ok (bts a);have v2:=rValid_ok (bts b);rw[vB (show a<LIM by omega)]at v1
 rw[vB (show b<LIM by omega)]at v2
 have e0:(bts b==([]:Bytes))=false:=nilF (by omega)
 have d1:=rDivModN (a:=b) (b:=g) (by omega) (by omega) hgp
 have d2:=rDivModN (a:=a) (b:=g) (by omega) (by omega) hgp
 have f1:=rFromZ (n:=b/g) (by omega)
 have f2:=rFromZ (n:=a/g) (by omega)
 have dm:=rIDivModZ (x:=x) (m:=b/g) (by omega) (by omega) hmp
 obtain⟨q,hq⟩: ∃q,q=x/((b/g:Nat):Int):=⟨_,rfl⟩;obtain⟨r,hr⟩: ∃r,r=(x%((b/g:Nat):Int)).toNat:=⟨_,rfl⟩;have hrl:r<b/g:=by
  have h1:=Int.emod_lt_of_pos x (show(0:Int)<((b/g:Nat):Int) by omega)
  omega
 have hqb:q.natAbs≤x.natAbs+1:=by
  have h1:=Int.emod_nonneg x (show((b/g:Nat):Int)≠0 by omega)
  have h2:=Int.emod_add_mul_ediv x ((b/g:Nat):Int);rw[←hq]at h2;have h3:(((b/g:Nat):Int)*q).natAbs=b/g*q.natAbs:=by rw[Int.natAbs_mul,Int.natAbs_natCast]
  have h4:q.natAbs≤b/g*q.natAbs:=Nat.le_mul_of_pos_left _ hmp
  by_cases hq0:q.natAbs≤1
  ·omega
  ·have h5:b/g+q.natAbs≤b/g*q.natAbs+1:=by
    obtain⟨u,hu⟩: ∃u,b/g=u+1:=⟨b/g-1,by omega⟩
    obtain⟨v,hv⟩: ∃v,q.natAbs=v+1:=⟨q.natAbs-1,by omega⟩
    rw[hu,hv,Nat.add_mul,Nat.mul_add];omega
   omega
 have mk:=rIMulZ (x:=q) (y:=((a/g:Nat):Int)) (by unfold W128;omega) (by rw[Int.natAbs_natCast];unfold W128;omega)
 have hpk:(q*((a/g:Nat):Int)).natAbs<W128:=by
  rw[Int.natAbs_mul,Int.natAbs_natCast];have:=Nat.mul_le_mul (show q.natAbs≤18446744073709551616 by omega) (show a/g≤18446744073709551616-1 by omega)
  unfold W128;omega
 have ad:=rIAddZ (x:=y) (y:=q*((a/g:Nat):Int)) (by unfold W128;omega) hpk
 have fr:=rFromZ (n:=r) (by omega)
 refine⟨(r:Int),y+q*((a/g:Nat):Int),?_,by omega,?_⟩
 ·intro h1;have g1:g=1:=by rw[hg];exact h1
  refine⟨by omega,(invN_eq (Nat.mod_lt _ h0) ?_).symm⟩
  have he1:=hz.e;rw[g1]at hr he1;rw[Nat.div_one]at hr;have hnn:=Int.emod_nonneg x (show(b:Int)≠0 by omega)
  have:=inv_of (a:=a) (b:=b) (X:=x%(b:Int)) (Y:=y+a*(x/(b:Int))) hnn (by
   have h2:=Int.emod_add_mul_ediv x (b:Int);have h3:x%(b:Int)=x-b*(x/(b:Int)):=by omega
   rw[h3,Int.mul_sub,Int.mul_add];have h4:(a:Int)*(b*(x/(b:Int)))=b*(a*(x/(b:Int))):=by rw[←Int.mul_assoc,Int.mul_comm (a:Int),Int.mul_assoc]
   simp only[Int.natCast_one]at he1;omega)
  have e5:(r:Int).natAbs=(x%(b:Int)).natAbs:=by rw[hr];omega
  rw[e5];exact this
 ·rw[←hg];rw[←hq,←hr]at dm;generalize q*((a/g:Nat):Int)=u at*;generalize y+u=v at*;clear hz hx hy hpk hqb hrl hq hr hmp hm1 hk1 hgp hgb hg;refine eW Tryz.call471 Tryz.func471 ?_;repeat' first|simp only[go_sem,seval,e0,Z,zs_nat,zb_nat]|refine cP v1 ?_|refine cP v2 ?_|refine cP he ?_|refine cP d1 ?_|refine cP d2 ?_|refine cP f1 ?_|refine cP f2 ?_|refine cP dm ?_|refine cP mk ?_|refine cP ad ?_|refine cP fr ?_|refine sB ?_|(first|apply pX|apply bX)<;>intro hc|refine⟨oD,?_⟩|exact oD|fail
theorem rMod_ok {a m:Nat} (ha:a<LIM) (hm:m<LIM) (h0:0<m):EvP Tryz.prog 303 [N a,N m] (N (a%m)):=by
 have hd:=rDivModN ha hm h0;refine eW Tryz.call303 Tryz.func303 ?_;repeat' first|simp only[go_sem,seval]|refine cP hd ?_|refine sB ?_|(first|apply pX|apply bX)<;>intro hc|refine⟨oD,?_⟩|exact oD|fail
theorem rChk1 (a m:Bytes):EvP Tryz.prog 429 [.sl [.s a, .s m]] (E (chkE [a] m)):=by
 have va:=rValid_ok a;have vm:=rValid_ok m;refine eW Tryz.call429 Tryz.func429 ?_;repeat' first|simp only[go_sem,seval,List.getD_cons_zero,List.getD_cons_succ]|refine cP va ?_|refine cP vm ?_|(refine loop_unroll' ?_)|refine sB ?_|(first|apply pX|apply bX)<;>intro hc|refine⟨oD,?_⟩|exact oD|fail
 all_goals simp_all[chkE]
theorem rChk2 (a b m:Bytes):EvP Tryz.prog 429 [.sl [.s a, .s b, .s m]] (E (chkE [a,b] m)):=by
 have va:=rValid_ok a;have vb:=rValid_ok b;have vm:=rValid_ok m;refine eW Tryz.call429 Tryz.func429 ?_;repeat' first|simp only[go_sem,seval,List.getD_cons_zero,List.getD_cons_succ]|refine cP va ?_|refine cP vb ?_|refine cP vm ?_|(refine loop_unroll' ?_)|refine sB ?_|(first|apply pX|apply bX)<;>intro hc|refine⟨oD,?_⟩|exact oD|fail
 all_goals simp_all[chkE]
theorem rTimesM {a b m:Nat} (ha:a<18446744073709551616) (hb:b<18446744073709551616) (hm:m<18446744073709551616) (h0:0<m):EvP Tryz.prog 431 [N a,N b,N m] (N (a*b%m)):=by
 have w2:=w64_limr;have hs:=rSmall_ok (bts m);rw[vB (show m<LIM by omega),decide_eq_true (lN hm),num_bts]at hs
 have d1:=rMod_ok (a:=a) (m:=m) (by omega) (by omega) h0
 have d2:=rMod_ok (a:=b) (m:=m) (by omega) (by omega) h0
 have l1:=Nat.mod_lt a h0;have l2:=Nat.mod_lt b h0;have s1:=rSmall_ok (bts (a%m));rw[vB (show a%m<LIM by omega),decide_eq_true (lN (show a%m<18446744073709551616 by omega)),num_bts]at s1
 have s2:=rSmall_ok (bts (b%m));rw[vB (show b%m<LIM by omega),decide_eq_true (lN (show b%m<18446744073709551616 by omega)),num_bts]at s2
 have hmul:a%m*(b%m)<18446744073709551616*18446744073709551616:=Nat.mul_lt_mul'' (by omega) (by omega)
 have hlm:18446744073709551616*18446744073709551616≤LIM:=by unfold LIM;decide+kernel
 have hp:=rMulN (a:=a%m) (b:=b%m) (by omega) (by omega) (by omega)
 have d3:=rMod_ok (a:=a%m*(b%m)) (m:=m) (by omega) (by omega) h0
 rw[←Nat.mul_mod]at d3;have hl3:=Nat.mod_lt (a*b) h0
 by_cases hsm:m<2147483648
 ·have ho:=rOf_ok (a*b%m) (by omega)
  have hlt:a%m*(b%m)<18446744073709551616:=by
   have:a%m*(b%m)<2147483648*2147483648:=Nat.mul_lt_mul'' (by omega) (by omega)
   omega
  have hw: ∀ _:True,IntKind.u64.wrap (((a%m:Nat):Int)*((b%m:Nat):Int))=((a%m*(b%m):Nat):Int):=fun _=>by
   rw[←Int.natCast_mul,IntWalk.u64_in _ (by omega)]
  have hmm: ∀ _:True,((a%m*(b%m):Nat):Int).tmod (m:Int)=((a*b%m:Nat):Int):=fun _=>by
   rw[Nat.mul_mod];rfl
  clear hp d3 hmul hlm;generalize a%m=u at*;generalize b%m=v at*;refine eW Tryz.call431 Tryz.func431 ?_;repeat' first|simp only[go_sem,seval,if_true,hw trivial,hmm trivial]|refine cP hs ?_|refine cP d1 ?_|refine cP d2 ?_|refine cP s1 ?_|refine cP s2 ?_|refine cP ho ?_|refine sB ?_|(first|apply pX|apply bX)<;>intro hc|refine⟨oD,?_⟩|exact oD|fail
 ·clear hmul hlm;refine eW Tryz.call431 Tryz.func431 ?_;repeat' first|simp only[go_sem,seval,if_true]|refine cP hs ?_|refine cP d1 ?_|refine cP d2 ?_|refine cP hp ?_|refine cP d3 ?_|refine sB ?_|(first|apply pX|apply bX)<;>intro hc|refine⟨oD,?_⟩|exact oD|fail
theorem rMulM {a b m:Nat} (ha:a<18446744073709551616) (hb:b<18446744073709551616) (hm:m<18446744073709551616) (h0:0<m):EvP Tryz.prog 374 [N a,N b,N m] (.tup [N (a*b%m),E 0]):=by
 have hc:=rChk2 (bts a) (bts b) (bts m);rw[chk2N ha (vN hb) hm h0]at hc;have ht:=rTimesM ha hb hm h0;refine eW Tryz.call374 Tryz.func374 ?_;repeat' first|simp only[go_sem,seval]|refine cP hc ?_|refine cP ht ?_|refine sB ?_|(first|apply pX|apply bX)<;>intro hc|refine⟨oD,?_⟩|exact oD|fail
theorem rRaise_ok {a m:Nat} {e:Bytes} (ha:a<18446744073709551616) (he:validN e=true) (hm:m<18446744073709551616) (h0:0<m):EvP Tryz.prog 430 [N a, .s e,N m] (N (a^num e%m)):=by
 have w2:=w64_limr;have ho:=rOf_ok 1 (by decide)
 have d1:=rMod_ok (a:=1) (m:=m) (by omega) (by omega) h0
 have hb:=rBits'_ok he;have hbi:=fun i hi=>rBit_ok he i hi
 obtain⟨n,hn⟩: ∃n,n=num e:=⟨_,rfl⟩;have hbl:blen n<1000000:=by
  have h1:n<2^1024:=by
   rw[hn];refine Nat.lt_of_lt_of_le (num_lt e) ?_;have le:=len_of he;exact Nat.le_trans (Nat.pow_le_pow_right (by decide) le) (by decide+kernel)
  by_cases hz:n=0
  ·rw[hz];decide
  ·obtain⟨g1,g2⟩:=blen_le hz;have:=(Nat.pow_lt_pow_iff_right (by decide:1<2)).1 (Nat.lt_of_le_of_lt g1 h1)
   omega
 rw[←hn]at hb hbi⊢;have hb2:n/2^blen n=0:=Nat.div_eq_of_lt (blen_lt n);clear hn;refine eW Tryz.call430 Tryz.func430 ?_;repeat' first|simp only[go_sem,seval]|refine cP ho ?_|refine cP d1 ?_|refine cP hb ?_|refine sB ?_|(first|apply pX|apply bX)<;>intro hc|refine⟨oD,?_⟩|exact oD|fail
 refine loop_run (α:=Nat) (fun k=>k) (fun k=>⟨[(0, .v (N a)),(1, .v (.s e)),(2, .v (N m)),(7, .v (N (a^(n/2^k)%m))),(8, .v (.i .i64 ((k:Int)-1)))],[],_⟩) (fun k=>k≤blen n) (blen n) (fun _=>Nat.le_refl _) (Nat.le_refl _) ?_ ?_
 ·(refine AS.Le.of (by first|decide|omega) ?_ ?_<;>simp[LeT,LeH,tget,hget,AV.bd,AV.bd.bdL,u8,bd_cellsOf,bcells_bd,icells_bd])
  rw[hb2,Nat.pow_zero]
 ·intro k hk R hR
  cases k with
  |zero=>
   repeat' first|simp only[go_sem,seval]|refine sB ?_|(first|apply pX|apply bX)<;>intro hc|refine⟨oD,?_⟩|exact oD|fail
   rw[Nat.div_one]
  |succ k=>
   obtain⟨x,hx⟩: ∃x,x=a^(n/2^(k+1))%m:=⟨_,rfl⟩;have hxm:x<m:=by rw[hx];exact Nat.mod_lt _ h0
   have hxx:x*x%m<m:=Nat.mod_lt _ h0;have t1:=rTimesM (a:=x) (b:=x) (by omega) (by omega) hm h0
   have t2:=rTimesM (a:=x*x%m) (b:=a) (by omega) ha hm h0
   have hbit:=hbi k (by omega)
   rw[Nat.testBit_eq_decide_div_mod_eq]at hbit;have hdd:=half_pow n k;have hw0: ∀ _:True,((k+1:Nat):Int)-1=(k:Int):=fun _=>by omega
   have hge0: ∀ _:True,decide ((k:Int)≥0)=true:=fun _=>by simp
   rw[←hx];repeat' first|simp only[go_sem,seval,hw0 trivial,hge0 trivial]|refine cP t1 ?_|refine cP t2 ?_|refine cP hbit ?_|refine sB ?_|(first|apply pX|apply bX)<;>intro hc|refine⟨oD,?_⟩|exact oD|fail
   ·have ez:x*x%m*a%m=a^(n/2^k)%m:=by
     have e3:x*x%m=a^(n/2^(k+1))*a^(n/2^(k+1))%m:=by rw[hx,←Nat.mul_mod]
     rw[e3,Nat.mod_mul_mod,←Nat.pow_add,←Nat.pow_succ];congr 2;omega
    refine hR k (by omega) (by omega) _ ?_
    rw[←ez];exact lE
   ·have ez:x*x%m=a^(n/2^k)%m:=by
     rw[hx,←Nat.mul_mod,←Nat.pow_add];congr 2;omega
    refine hR k (by omega) (by omega) _ ?_
    rw[←ez];exact lE
theorem rExpM {a m:Nat} {e:Bytes} (ha:a<18446744073709551616) (he:validN e=true) (hm:m<18446744073709551616) (h0:0<m):EvP Tryz.prog 367 [N a, .s e,N m] (.tup [N (a^num e%m),E 0]):=by
 have hc:=rChk2 (bts a) e (bts m);rw[chk2N ha he hm h0]at hc;have hr:=rRaise_ok ha he hm h0;refine eW Tryz.call367 Tryz.func367 ?_;repeat' first|simp only[go_sem,seval]|refine cP hc ?_|refine cP hr ?_|refine sB ?_|(first|apply pX|apply bX)<;>intro hc|refine⟨oD,?_⟩|exact oD|fail
theorem rInverse_ok {a m:Nat} (ha:a<18446744073709551616) (hm:m<18446744073709551616) (h0:0<m) (hg:Nat.gcd a m=1):EvP Tryz.prog 457 [N a,N m] (.tup [N (invN a m),E 0]):=by
 have w1:=w64_128r;have w2:=w64_limr;have hc:=rChk1 (bts a) (bts m);rw[chk1N ha hm h0]at hc;have hd:=rMod_ok (a:=a) (m:=m) (by omega) (by omega) h0
 have hl:=Nat.mod_lt a h0;have hg':Nat.gcd (a%m) m=1:=by rw[←hg,←Nat.gcd_rec,Nat.gcd_comm]
 obtain⟨X,Y,h1,h2,h3⟩:=rExtended_ok (a:=a%m) (b:=m) (by omega) hm h0
 obtain⟨h4,h5⟩:=h1 hg';rw[hg']at h3;have ho:=rOf_ok 1 (by decide)
 have hi:=rIModZ (x:=X) (m:=m) (by omega) (by omega) h0
 have hX:(X%(m:Int)).toNat=invN a m:=by
  obtain⟨n,rfl⟩:=Int.eq_ofNat_of_zero_le h4;rw[Int.natAbs_natCast]at h5;have e1:((n:Int)%(m:Int)).toNat=n%m:=rfl;rw[e1,h5];obtain⟨g1,g2⟩:=(unit_of_gcd h0 hg').inv;exact(invN_eq g1 (by rw[Nat.mod_mul_mod]at g2;exact g2)).symm
 rw[hX]at hi;have hbn:(bts 1 !=bts 1)=false:=by simp
 clear h1 h4 h5 hX;refine eW Tryz.call457 Tryz.func457 ?_;repeat' first|simp only[go_sem,seval,Z,hbn,bne_self_eq_false,beq_self_eq_true]|refine cP hc ?_|refine cP hd ?_|refine cP h3 ?_|refine cP ho ?_|refine cP hi ?_|refine sB ?_|(first|apply pX|apply bX)<;>intro hc|refine⟨oD,?_⟩|exact oD|fail
theorem rPower_ok {a m:Nat} {e:Bytes} {ng:Bool} (ha:a<m) (he:validN e=true) (hz:(ng&&e==[])=false) (hm:m<18446744073709551616) (hu:Nat.gcd a m=1):EvP Tryz.prog 432 [N a, .agg [.b ng, .s e],N m] (.tup [N (powZ m a ng (num e)),E 0]):=by
 have h0:0<m:=by omega
 have w2:=w64_limr;have v1:=rValid_ok (bts a);have v2:=rValid_ok (bts m);rw[vB (show a<LIM by omega)]at v1
 rw[vB (show m<LIM by omega)]at v2
 have v3:=rIValid_ok ng e;rw[he,hz]at v3;have e0:(bts m==([]:Bytes))=false:=nilF (by omega)
 have hi:=rInverse_ok (show a<18446744073709551616 by omega) hm h0 hu
 have hil:=(unit_of_gcd h0 hu).inv.1;cases ng
 ·have hr:=rRaise_ok (a:=a) (m:=m) (e:=e) (by omega) he hm h0
  have e1:powZ m a false (num e)=a^num e%m:=rfl;rw[e1];refine eW Tryz.call432 Tryz.func432 ?_;repeat' first|simp only[go_sem,seval,e0]|refine cP v1 ?_|refine cP v2 ?_|refine cP v3 ?_|refine cP hr ?_|refine sB ?_|(first|apply pX|apply bX)<;>intro hc|refine⟨oD,?_⟩|exact oD|fail
 ·have hr:=rRaise_ok (a:=invN a m) (m:=m) (e:=e) (by omega) he hm h0
  have e1:powZ m a true (num e)=invN a m^num e%m:=rfl;rw[e1];refine eW Tryz.call432 Tryz.func432 ?_;repeat' first|simp only[go_sem,seval,e0]|refine cP v1 ?_|refine cP v2 ?_|refine cP v3 ?_|refine cP hi ?_|refine cP hr ?_|refine sB ?_|(first|apply pX|apply bX)<;>intro hc|refine⟨oD,?_⟩|exact oD|fail
end Go.Proofs.YtmledjfbgjnknaaGreatDoor
