/-
  Part of the proof, part 25. Own work.
-/
import Derived.Test.YtmobkhegihemeaaGreatDoorM24
set_option linter.all false
namespace Go.Num
def Pr (n:Nat):Prop:=2≤n∧ ∀d,d∣n→d=1∨d=n
theorem Pr.cop {p a:Nat} (h:Pr p) (ha: ¬p∣a):Nat.Coprime a p:=by
 rcases h.2 _ (Nat.gcd_dvd_right a p)with e|e
 ·exact e
 ·exact absurd (e▸Nat.gcd_dvd_left a p) ha
def bases12:List Nat:=[2,3,5,7,11,13,17,19,23,29,31,37]
def tzF:Nat→Nat→Nat
 |0,_=>0
 |f+1,n=>if n%2=1 then 0 else tzF f (n/2)+1
def sqs:Nat→Nat→Nat→Bool
 |0,_,_=>false
 |k+1,x,n=>x*x%n==n-1||sqs k (x*x%n) n
def strong (n s d a:Nat):Bool:=(a%n)^d%n==1||(a%n)^d%n==n-1||sqs (s-1) ((a%n)^d%n) n
def isMR (n:Nat):Bool:=
 if n<2 then false else
 match bases12.find? fun p=>n%p==0 with
 |some p=>n==p
 |none=>bases12.all fun a=>strong n (tzF 64 (n-1)) ((n-1)/2^tzF 64 (n-1)) a
def isSafe (n:Nat):Bool:=isMR n&&isMR ((n-1)/2)
end Go.Num
namespace Go.Proofs.YtmobkhegihemeaaGreatDoor
open Go Go.Dom
set_option maxRecDepth 100000
set_option maxHeartbeats 4000000
def chkE (l:List Bytes) (m:Bytes):Int:=if l.all validN&&validN m then(if m=[]then 11 else 0)else 3
theorem check1 (nm:Nat) (a m:Bytes):EvA Tryz.prog 161 nm [] [.fs [.s a], .fs [.s m]] (.v (E (chkE [a] m))) []:=by
 refine EvA.w mixed Tryz.call161 Tryz.func161 rfl (tyC.1 _ _ _ (by cbv)) (tyC.2 _ _ (by cbv)) (obs:=[]) (args:=[.fs [.s a], .fs [.s m]]) (fs:=[]) (j:=none) (nw:=none) (v:= .v (E (chkE [a] m))) (ns:=[]) (obsA:=[]) rfl ?_ (by simp) (by simp) rfl rfl (by simp[mapO,AV.ren]) (by simp[AV.ren]) (by simp[upsOf,outs])
 have va:=natValid a;have vm:=natValid m;simp only[go_sem,seval];repeat' first|simp only[go_sem,seval,true_or,or_true,false_or,or_false,Option.some.injEq,RetA,resLA,outV,outC,outO,viewC,hfV,foV,finH,finN,mkResA,mapO_outC_bcells,AV.ren,AV.ren.renL,renL_bcells,List.getD_cons_zero,List.getD_cons_succ]|refine cP va ?_|refine cP vm ?_|(refine loop_unroll' ?_)|refine sB ?_|(first|apply pX|apply bX)<;>intro hc|refine⟨oD,?_⟩|exact oD|fail
 all_goals simp_all[chkE]
theorem check2 (nm:Nat) (a b m:Bytes):EvA Tryz.prog 161 nm [] [.fs [.s a, .s b], .fs [.s m]] (.v (E (chkE [a,b] m))) []:=by
 refine EvA.w mixed Tryz.call161 Tryz.func161 rfl (tyC.1 _ _ _ (by cbv)) (tyC.2 _ _ (by cbv)) (obs:=[]) (args:=[.fs [.s a, .s b], .fs [.s m]]) (fs:=[]) (j:=none) (nw:=none) (v:= .v (E (chkE [a,b] m))) (ns:=[]) (obsA:=[]) rfl ?_ (by simp) (by simp) rfl rfl (by simp[mapO,AV.ren]) (by simp[AV.ren]) (by simp[upsOf,outs])
 have va:=natValid a;have vb:=natValid b;have vm:=natValid m;simp only[go_sem,seval];repeat' first|simp only[go_sem,seval,true_or,or_true,false_or,or_false,Option.some.injEq,RetA,resLA,outV,outC,outO,viewC,hfV,foV,finH,finN,mkResA,mapO_outC_bcells,AV.ren,AV.ren.renL,renL_bcells,List.getD_cons_zero,List.getD_cons_succ]|refine cP va ?_|refine cP vb ?_|refine cP vm ?_|(refine loop_unroll' ?_)|refine sB ?_|(first|apply pX|apply bX)<;>intro hc|refine⟨oD,?_⟩|exact oD|fail
 all_goals simp_all[chkE]
theorem chk1N {a m:Nat} (ha:a<18446744073709551616) (hm:m<18446744073709551616) (h0:0<m):chkE [bts a] (bts m)=0:=by
 have:bts m≠[]:=fun h=>by rw[bts_nil]at h;omega
 simp[chkE,vN ha,vN hm,this]
theorem chk2N {a m:Nat} {e:Bytes} (ha:a<18446744073709551616) (he:validN e=true) (hm:m<18446744073709551616) (h0:0<m):chkE [bts a,e] (bts m)=0:=by
 have:bts m≠[]:=fun h=>by rw[bts_nil]at h;omega
 simp[chkE,vN ha,he,vN hm,this]
theorem SmallN {a:Nat} (h:a<18446744073709551616):EvP Tryz.prog 130 [N a] (.tup [.i .u64 a, .b true]):=by
 have:=Small_ok (bts a);rw[vN h,decide_eq_true (lN h),num_bts]at this;exact this
theorem timesN {a b m:Nat} (ha:a<18446744073709551616) (hb:b<18446744073709551616) (hm:m<18446744073709551616) (h0:0<m):EvP Tryz.prog 164 [N a,N b,N m] (N (a*b%m)):=by
 have la:=lN ha;have lb:=lN hb;have lm:=lN hm;have h1:a%m<18446744073709551616:=Nat.lt_of_le_of_lt (Nat.mod_le _ _) ha;have h2:b%m<18446744073709551616:=Nat.lt_of_le_of_lt (Nat.mod_le _ _) hb;have hq:=Mul64_ok (a%m) (b%m) h1 h2;have h3:a%m*(b%m)/18446744073709551616<18446744073709551616:=(Nat.div_lt_iff_lt_mul (by decide)).2 (Nat.mul_lt_mul'' h1 h2)
 have hr:=Rem64_ok (a%m*(b%m)/18446744073709551616) (a%m*(b%m)%18446744073709551616) m h0 h3 (Nat.mod_lt _ (by decide)) hm
 have e:a%m*(b%m)/18446744073709551616*18446744073709551616+a%m*(b%m)%18446744073709551616=a%m*(b%m):=by omega
 rw[e,←Nat.mul_mod]at hr;have ho:=Of_ok (a*b%m) (Nat.lt_trans (Nat.mod_lt _ h0) hm);have sa:=SmallN ha;have sb:=SmallN hb;have sm:=SmallN hm;clear h3 e h1 h2;refine eW Tryz.call164 Tryz.func164 ?_;repeat' first|simp only[go_sem,seval]|refine cP sa ?_|refine cP sb ?_|refine cP sm ?_|refine cP hq ?_|refine cP hr ?_|refine cP ho ?_|refine sB ?_|(first|apply pX|apply bX)<;>intro hc|refine⟨oD,?_⟩|exact oD|fail
theorem reducedN {a m:Nat} (ha:a<18446744073709551616) (hm:m<18446744073709551616) (h0:0<m):EvP Tryz.prog 162 [N a,N m] (N (a%m)):=by
 refine eW Tryz.call162 Tryz.func162 ?_;repeat' first|simp only[go_sem,seval]|refine cP (DivModN ha hm h0) ?_|refine sB ?_|(first|apply pX|apply bX)<;>intro hc|refine⟨oD,?_⟩|exact oD|fail
theorem mMulN {a b m:Nat} (ha:a<18446744073709551616) (hb:b<18446744073709551616) (hm:m<18446744073709551616) (h0:0<m):EvP Tryz.prog 128 [N a,N b,N m] (.tup [N (a*b%m),E 0]):=by
 have hc:=fun nm=>check2 nm (bts a) (bts b) (bts m)
 rw[chk2N ha (vN hb) hm h0]at hc;refine eW Tryz.call128 Tryz.func128 ?_;repeat' first|simp only[go_sem,seval]|(refine CR_eff (hc _) (by simp) ?_)|refine cP (timesN ha hb hm h0) ?_|refine sB ?_|(first|apply pX|apply bX)<;>intro hc|refine⟨oD,?_⟩|exact oD|fail
theorem digits_ok (e:Bytes):EvP Tryz.prog 163 [.s e] (.fc 239 [] [.pt (.agg [.s e]) 0]):=by
 refine eW Tryz.call163 Tryz.func163 ?_;repeat' first|simp only[go_sem,seval]|refine sB ?_|(first|apply pX|apply bX)<;>intro hc|refine⟨oD,?_⟩|exact oD|fail
theorem digs_len (n:Nat): ∀k,∀y∈digs n k,y.length=1
 |0,y,h=>by cases h
 |k+1,y,h=>by
  rcases List.mem_cons.1 h with rfl|h
  ·rfl
  ·exact digs_len n k y h
theorem one_eq:(.s [1]:PV)=N 1:=rfl
theorem sqMod {a z m:Nat}:a^z%m*(a^z%m)%m=a^(2*z)%m:=by rw[←Nat.mul_mod,←Nat.pow_add,Nat.two_mul]
theorem sqMod1 {a z m:Nat}:a^z%m*(a^z%m)%m*(a%m)%m=a^(2*z+1)%m:=by rw[sqMod,←Nat.mul_mod,←Nat.pow_succ]
theorem ExpN {a m:Nat} {e:Bytes} (ha:a<18446744073709551616) (he:validN e=true) (hm:m<18446744073709551616) (h0:0<m):EvP Tryz.prog 108 [N a, .s e,N m] (.tup [N (a^num e%m),E 0]):=by
 have hc:=fun nm=>check2 nm (bts a) e (bts m)
 rw[chk2N ha he hm h0]at hc;have h1:=reducedN (a:=1) (by decide) hm h0
 refine eW Tryz.call108 Tryz.func108 ?_;simp only[go_sem,seval,one_eq];repeat' first|simp only[go_sem,seval,one_eq]|(refine CR_eff (hc _) (by simp) ?_)|refine cP (reducedN ha hm h0) ?_|refine cP h1 ?_|refine cP (digits_ok e) ?_|(refine CW_rng (digits_it e he) rfl (digs_len _ _) ?_)|refine sB ?_|(first|apply pX|apply bX)<;>intro hc|refine⟨oD,?_⟩|exact oD|fail
 obtain⟨n,hn⟩: ∃n,n=num e:=⟨_,rfl⟩;rw[←hn];have hbl:n/2^blen n=0:=by
  refine Nat.div_eq_of_lt ?_;unfold blen;split
  ·subst_vars;rename_i h;rw[h];decide
  ·rename_i h;exact Nat.lt_log2_self
 refine rg_run (α:=Nat) (fun k=>⟨[(3, .p 1000 0 0),(5, .p 1001 0 0),(9, .p 1019 0 0)],[(1000,⟨0,[.v (N (a%m))],false,none⟩),(1001,⟨0,[.v (N m)],false,none⟩),(1019,⟨0,[.v (N (a^(n/2^k)%m))],false,some 22⟩)],_⟩) (fun ys k=>ys=digs n k) (blen n) (fun _=>Nat.le_refl _) rfl ?_ ?_ ?_
 ·(refine AS.Le.of (by first|decide|omega) ?_ ?_<;>simp[LeT,LeH,tget,hget,AV.bd,AV.bd.bdL,u8,bd_cellsOf,bcells_bd,icells_bd])
  rw[hbl,Nat.pow_zero]
 ·intro k hk
  cases k with
  |succ k=>cases hk
  |zero=>
   repeat' first|simp only[go_sem,seval]|refine sB ?_|(first|apply pX|apply bX)<;>intro hc|refine⟨oD,?_⟩|exact oD|fail
   rw[Nat.div_one]
 ·intro y ys k hk R hR
  cases k with
  |zero=>cases hk
  |succ k=>
   simp only[digs,List.cons.injEq]at hk;obtain⟨rfl,rfl⟩:=hk;obtain⟨x,hx⟩: ∃x,x=a^(n/2^(k+1))%m:=⟨_,rfl⟩;have hxm:x<m:=by rw[hx];exact Nat.mod_lt _ h0
   have t1:=timesN (a:=x) (b:=x) (by omega) (by omega) hm h0
   have hxx:x*x%m<m:=Nat.mod_lt _ h0;have ham:a%m<m:=Nat.mod_lt _ h0;have t2:=timesN (a:=x*x%m) (b:=a%m) (by omega) (by omega) hm h0
   have hbit:=Nat.testBit_eq_decide_div_mod_eq (x:=n) (i:=k);have hdd:n/2^(k+1)=n/2^k/2:=by rw[Nat.pow_succ,Nat.div_div_eq_div_mul]
   rw[←hx,hbit];repeat' first|simp only[go_sem,seval]|refine cP t1 ?_|refine cP t2 ?_|refine sB ?_|(first|apply pX|apply bX)<;>intro hc|refine⟨oD,?_⟩|exact oD|fail
   ·have hb2:n/2^k=2*(n/2^(k+1))+1:=by omega
    refine hR k rfl _ ?_;rw[hb2,hx,sqMod1];exact lE
   ·have hb2:n/2^k=2*(n/2^(k+1)):=by omega
    refine hR k rfl _ ?_;rw[hb2,hx,sqMod];exact lE
theorem oneF (n:Nat):(bts n==([1]:Bytes))=decide (n=1):=btsEq n 1
end Go.Proofs.YtmobkhegihemeaaGreatDoor
namespace Go.Proofs.YtmobkhegihemeaaGreatDoor
open Go Go.Dom Go.Num
set_option maxRecDepth 100000
set_option maxHeartbeats 4000000

end Go.Proofs.YtmobkhegihemeaaGreatDoor
namespace Go.Dom
noncomputable def powZ (m x:Nat) (ng:Bool) (e:Nat):Nat:=(if ng then invN x m else x)^e%m
def Unit' (m x:Nat):Prop:= ∃i,i<m∧x*i%m=1%m
theorem Unit'.inv {m x:Nat} (h:Unit' m x):invN x m<m∧x*invN x m%m=1%m:=by
 obtain⟨i,h1,h2⟩:=h;rw[invN_eq h1 h2];exact⟨h1,h2⟩
theorem Unit'.inv' {m x:Nat} (h:Unit' m x) (hm:0<m):Unit' m (invN x m):=
 ⟨x%m,Nat.mod_lt _ hm,by rw[Nat.mul_mod_mod,Nat.mul_comm];exact h.inv.2⟩
theorem Unit'.pow {m x:Nat} (h:Unit' m x) (hm:0<m) (e:Nat):Unit' m (x^e%m)∧invN (x^e%m) m=invN x m^e%m:=by
 obtain⟨h1,h2⟩:=h.inv;have key:x^e%m*(invN x m^e%m)%m=1%m:=by
  rw[←Nat.mul_mod,←Nat.mul_pow,Nat.pow_mod,h2,←Nat.pow_mod,Nat.one_pow]
 have hl:invN x m^e%m<m:=Nat.mod_lt _ hm;exact⟨⟨_,hl,key⟩,invN_eq hl key⟩
theorem Unit'.inv2 {m x:Nat} (h:Unit' m x) (hm:0<m):invN (invN x m) m=x%m:=
 invN_eq (Nat.mod_lt _ hm) (by rw[Nat.mul_mod_mod,Nat.mul_comm];exact h.inv.2)
theorem Unit'.powZ {m x:Nat} (h:Unit' m x) (hm:0<m) (ng:Bool) (e:Nat):Unit' m (Dom.powZ m x ng e):=by
 unfold Dom.powZ;cases ng
 ·exact(h.pow hm e).1
 ·exact((h.inv' hm).pow hm e).1
theorem Unit'.mul {m x y:Nat} (h:Unit' m x) (g:Unit' m y) (hm:0<m):Unit' m (x*y%m):=by
 obtain⟨i,h1,h2⟩:=h;obtain⟨j,g1,g2⟩:=g;refine⟨i*j%m,Nat.mod_lt _ hm,?_⟩;rw[←Nat.mul_mod];have e:x*y*(i*j)=(x*i)*(y*j):=by
  rw[Nat.mul_assoc,Nat.mul_assoc];congr 1;rw[←Nat.mul_assoc,Nat.mul_comm y i,Nat.mul_assoc]
 rw[e,Nat.mul_mod,h2,g2,←Nat.mul_mod,Nat.one_mul]
theorem pow_pow_mod (m x a b:Nat):(x^a%m)^b%m=x^(a*b)%m:=by rw[←Nat.pow_mod,←Nat.pow_mul]
theorem powZ_powZ {m x:Nat} (h:Unit' m x) (hm:0<m) (n1 n2:Bool) (a b:Nat):powZ m (powZ m x n1 a) n2 b=powZ m x (n1 !=n2) (a*b):=by
 cases n1<;>cases n2
 ·simp only[powZ,Bool.false_eq_true,if_false,bne_self_eq_false,pow_pow_mod]
 ·have:=(h.pow hm a).2;simp only[powZ,Bool.false_eq_true,if_false,if_true,this,pow_pow_mod,Bool.bne_true,Bool.not_false]
 ·simp only[powZ,Bool.false_eq_true,if_false,if_true,pow_pow_mod,Bool.bne_false]
 ·have h1:=((h.inv' hm).pow hm a).2;rw[h.inv2 hm]at h1;simp only[powZ,if_true,bne_self_eq_false,Bool.false_eq_true,if_false,h1];rw[pow_pow_mod,←Nat.pow_mod]
theorem powZ_zero (m x:Nat) (n:Bool):powZ m x n 0=1%m:=by simp[powZ]
theorem unit_of_gcd {m x:Nat} (hm:0<m) (h:Nat.gcd x m=1):Unit' m x:=by
 have key: ∀(n a b:Nat),b≤n→ ∃X Y:Int,(a:Int)*X+b*Y=Nat.gcd a b:=by
  intro n
  induction n with
  |zero=>
   intro a b hb;obtain rfl:b=0:=by omega
   exact⟨1,0,by simp⟩
  |succ n ih=>
   intro a b hb;rcases Nat.eq_zero_or_pos b with rfl|h0
   ·exact⟨1,0,by simp⟩
   ·obtain⟨X,Y,e⟩:=ih b (a%b) (by have:=Nat.mod_lt a h0;omega)
    refine⟨Y,X-(a/b:Nat)*Y,?_⟩;have hg:Nat.gcd b (a%b)=Nat.gcd a b:=by rw[Nat.gcd_comm a b,Nat.gcd_rec b a,Nat.gcd_comm]
    rw[←hg,←e];have e1:(a:Int)=b*(a/b:Nat)+(a%b:Nat):=by
     have:((b*(a/b)+a%b:Nat):Int)=(a:Int):=by rw[Nat.div_add_mod]
     rw[←this];simp
    generalize a/b=q at*;generalize a%b=t at*;rw[Int.mul_sub,e1,Int.add_mul];have e3:(b:Int)*q*Y=b*(q*Y):=Int.mul_assoc ..;omega
 obtain⟨X,Y,e⟩:=key m x m (Nat.le_refl _);rw[h]at e;refine⟨(X%(m:Int)).toNat,?_,?_⟩
 ·have:=Int.emod_lt_of_pos X (show(0:Int)<m by omega)
  have:=Int.emod_nonneg X (show(m:Int)≠0 by omega)
  omega
 ·have h0:=Int.emod_nonneg X (show(m:Int)≠0 by omega)
  have e2:((x*(X%(m:Int)).toNat:Nat):Int)%m=(1:Int)%m:=by
   rw[Int.natCast_mul,Int.toNat_of_nonneg h0,Int.mul_emod,Int.emod_emod_of_dvd _ (Int.dvd_refl _),←Int.mul_emod];have:(x:Int)*X=1+m*(-Y):=by rw[Int.mul_neg];simp at e;omega
   rw[this,Int.add_mul_emod_self_left]
  exact_mod_cast e2
noncomputable def powI (m x:Nat) (z:Int):Nat:=powZ m x (decide (z<0)) z.natAbs
theorem pow_cancel {m x y:Nat} (h:x*y%m=1%m) (n k:Nat):x^(n+k)*y^k%m=x^n%m:=by
 rw[Nat.pow_add,Nat.mul_assoc,←Nat.mul_pow,Nat.mul_mod,Nat.pow_mod (x*y) k m,h,←Nat.pow_mod,Nat.one_pow,←Nat.mul_mod,Nat.mul_one]
theorem powI_nn (m x:Nat) (n:Nat):powI m x (n:Int)=x^n%m:=by
 unfold powI powZ;rw[decide_eq_false (by omega)];simp
theorem powI_neg {m x:Nat} (n:Nat):powI m x (-(n:Int))=invN x m^n%m:=by
 unfold powI powZ
 by_cases h:n=0
 ·subst h;simp
 ·rw[decide_eq_true (by omega)];simp
theorem powI_add {m x:Nat} (h:Unit' m x) (hm:0<m) (a b:Int):powI m x a*powI m x b%m=powI m x (a+b):=by
 obtain⟨h1,h2⟩:=h.inv;have h3:invN x m*x%m=1%m:=by rw[Nat.mul_comm];exact h2
 rcases Int.eq_nat_or_neg a with⟨n,rfl|rfl⟩<;>rcases Int.eq_nat_or_neg b with⟨k,rfl|rfl⟩
 ·rw[powI_nn,powI_nn,←Nat.mul_mod,←Nat.pow_add,←powI_nn];simp
 ·rw[powI_nn,powI_neg,←Nat.mul_mod];rcases Nat.le_total k n with hk|hk
  ·obtain⟨d,rfl⟩:=Nat.exists_eq_add_of_le hk;rw[Nat.add_comm k d,pow_cancel h2,←powI_nn];congr 1;omega
  ·obtain⟨d,rfl⟩:=Nat.exists_eq_add_of_le hk;rw[Nat.mul_comm,Nat.add_comm n d,pow_cancel h3,←powI_neg];congr 1;omega
 ·rw[powI_nn,powI_neg,←Nat.mul_mod];rcases Nat.le_total k n with hk|hk
  ·obtain⟨d,rfl⟩:=Nat.exists_eq_add_of_le hk;rw[Nat.add_comm k d,pow_cancel h3,←powI_neg];congr 1;omega
  ·obtain⟨d,rfl⟩:=Nat.exists_eq_add_of_le hk;rw[Nat.mul_comm,Nat.add_comm n d,pow_cancel h2,←powI_nn];congr 1;omega
 ·rw[powI_neg,powI_neg,←Nat.mul_mod,←Nat.pow_add,←powI_neg];congr 1;omega
theorem powI_pow {m x:Nat} (h:Unit' m x) (hm:0<m) (w c:Nat):powI m (x^w%m) (-(c:Int))=powI m x (-((c*w:Nat):Int)):=by
 rw[powI_neg,powI_neg,(h.pow hm w).2,pow_pow_mod,Nat.mul_comm c w]
theorem respond_law {m x:Nat} (h:Unit' m x) (hm:0<m) (a:Int) (w c:Nat):powI m (x^w%m) (-(c:Int))*powI m x (a+(c*w:Nat))%m=powI m x a:=by
 rw[powI_pow h hm,powI_add h hm];congr 1;omega
def pp (l:List (Nat×Nat)) (k:Nat):Nat:=l.foldr (fun p a=>p.1^(p.2/2^k)*a) 1
def pb (l:List (Nat×Nat)) (k:Nat):Nat:=l.foldr (fun p a=>p.1^(p.2/2^k%2)*a) 1
theorem pp_cons (p:Nat×Nat) (l:List (Nat×Nat)) (k:Nat):pp (p::l) k=p.1^(p.2/2^k)*pp l k:=rfl
theorem pb_cons (p:Nat×Nat) (l:List (Nat×Nat)) (k:Nat):pb (p::l) k=p.1^(p.2/2^k%2)*pb l k:=rfl
theorem pb_snoc (l:List (Nat×Nat)) (p:Nat×Nat) (k:Nat):pb (l++[p]) k=pb l k*p.1^(p.2/2^k%2):=by
 induction l with
 |nil=>simp[pb]
 |cons q l ih=>rw[List.cons_append,pb_cons,pb_cons,ih,Nat.mul_assoc]
theorem pp_step (l:List (Nat×Nat)) (k:Nat):pp l k=pp l (k+1)*pp l (k+1)*pb l k:=by
 induction l with
 |nil=>rfl
 |cons p l ih=>
  rw[pp_cons,pp_cons,pb_cons,ih];have e:p.2/2^k=p.2/2^(k+1)+p.2/2^(k+1)+p.2/2^k%2:=by
   have:p.2/2^(k+1)=p.2/2^k/2:=by rw[Nat.pow_succ,Nat.div_div_eq_div_mul]
   omega
  rw[e,Nat.pow_add,Nat.pow_add,←e];generalize p.1^(p.2/2^(k+1))=a;generalize p.1^(p.2/2^k%2)=b;generalize pp l (k+1)=c;generalize pb l k=d;simp only[Nat.mul_assoc,Nat.mul_left_comm,Nat.mul_comm]
theorem pp_top {l:List (Nat×Nat)} {k:Nat} (h: ∀p∈l,p.2<2^k):pp l k=1:=by
 induction l with
 |nil=>rfl
 |cons p l ih=>
  rw[pp_cons,ih fun q hq=>h q (List.mem_cons_of_mem _ hq),Nat.div_eq_of_lt (h p (List.mem_cons_self ..))];rfl
noncomputable def bsZ (M:Nat) (x:Nat) (e:Bool×Bytes):Nat:=if e.1 then invN x M else x
noncomputable def prZ (M:Nat) (l:List (Nat×(Bool×Bytes))):Nat:=pp (l.map fun p=>(bsZ M p.1 p.2,num p.2.2)) 0%M
theorem prZ_nil (M:Nat):prZ M []=1%M:=rfl
theorem pp0_cons (p:Nat×Nat) (l:List (Nat×Nat)):pp (p::l) 0=p.1^p.2*pp l 0:=by rw[pp_cons,Nat.pow_zero,Nat.div_one]
theorem prZ_cons (M:Nat) (x:Nat) (e:Bool×Bytes) (l:List (Nat×(Bool×Bytes))):prZ M ((x,e)::l)=powZ M x e.1 (num e.2)*prZ M l%M:=by
 unfold prZ powZ;rw[List.map_cons,pp0_cons,←Nat.mul_mod];rfl
theorem prZ_one (M:Nat) (x:Nat) (e:Bool×Bytes):prZ M [(x,e)]=powZ M x e.1 (num e.2):=by
 rw[prZ_cons,prZ_nil,Nat.mul_mod_mod,Nat.mul_one];unfold powZ;rw[Nat.mod_mod]
theorem powI_zero (m x:Nat):powI m x 0=1%m:=powZ_zero _ _ _
theorem powI_powI {m x:Nat} (h:Unit' m x) (hm:0<m) (a b:Int):powI m (powI m x a) b=powI m x (a*b):=by
 unfold powI;rw[powZ_powZ h hm,Int.natAbs_mul]
 by_cases h0:a.natAbs*b.natAbs=0
 ·rw[h0,powZ_zero,powZ_zero]
 ·congr 1;have ha:a≠0:=fun e=>h0 (by simp[e])
  have hb:b≠0:=fun e=>h0 (by simp[e])
  rw[Bool.eq_iff_iff];simp only[bne_iff_ne,ne_eq,decide_eq_decide,decide_eq_true_eq];rcases Int.lt_or_gt_of_ne ha with h1|h1<;>rcases Int.lt_or_gt_of_ne hb with h2|h2
  ·have:=Int.mul_pos_of_neg_of_neg h1 h2;generalize a*b=c at*;omega
  ·have:=Int.mul_neg_of_neg_of_pos h1 h2;generalize a*b=c at*;omega
  ·have:=Int.mul_neg_of_pos_of_neg h1 h2;generalize a*b=c at*;omega
  ·have:=Int.mul_pos h1 h2;generalize a*b=c at*;omega
theorem powI_mod (m x:Nat) (z:Int):powI m x z%m=powI m x z:=Nat.mod_mod _ _
theorem unit_one {m:Nat} (hm:0<m):Unit' m (1%m):=⟨1%m,Nat.mod_lt _ hm,by rw[←Nat.mul_mod,Nat.one_mul]⟩
variable {α:Type} {m:Nat} (b:α→Nat)
theorem powI_ord {x o:Nat} (hx:Unit' m x) (hm:0<m) (ho:x^o%m=1%m) {a c:Int} (h:(o:Int)∣a-c):powI m x a=powI m x c:=by
 obtain⟨k,hk⟩:=h;have e:a=c+o*k:=by omega
 have h1:powI m x (o*k)=1%m:=by
  rw[←powI_powI hx hm,powI_nn,ho];have:=powI_powI (unit_one hm) hm 0 k
  rwa[Int.zero_mul,powI_zero]at this
 rw[e,←powI_add hx hm,h1,Nat.mul_mod_mod,Nat.mul_one,powI_mod]
end Go.Dom
namespace Go.Dom
theorem Cg.dvd {q a b:Int} (h:Cg q a b):q∣a-b:=h
variable {m:Nat}
variable {q:Nat} {l:List Int} {w:Nat→Int}
theorem pow_iv {g:Nat} (hg:Unit' m g) (hm:0<m) (ho:g^q%m=1%m) {z:Int} (hz:Iv q z) (h:powI m g z=1%m):powI m g 1=1%m:=by
 obtain⟨y,hy⟩:=hz;rw[←powI_ord hg hm ho hy.dvd,←powI_powI hg hm,h];have:=powI_powI (unit_one hm) hm 0 y
 rwa[Int.zero_mul,powI_zero]at this
end Go.Dom
namespace Go.Dom
def thrL (q:Int) (l:List Int) (f:Nat→Int):List Int:=(List.range l.length).map fun j=>acN q (fun k=>mxL q (l.eraseIdx k)) f j l.length
theorem hnP_bd {q:Int} (hq:0<q) (x:Int): ∀p:List Int,0≤hnP q p x∧hnP q p x<q
 |[]=>⟨Int.le_refl _,hq⟩
 |a::p=>⟨Int.emod_nonneg _ (by omega),Int.emod_lt_of_pos _ hq⟩
theorem acN_bd {q:Int} (hq:0<q) (P:Nat→List Int) (f:Nat→Int) (j:Nat): ∀n,0≤acN q P f j n∧acN q P f j n<q
 |0=>⟨Int.le_refl _,hq⟩
 |n+1=>⟨Int.emod_nonneg _ (by omega),Int.emod_lt_of_pos _ hq⟩
theorem Iv.of_nat {q a b:Nat} (h:a*b%q=1%q):Iv q a:=by
 refine⟨b,?_⟩;have h1:Cg q (((a*b%q:Nat):Int)) ((a*b:Nat):Int):=by rw[Int.natCast_emod];exact Cg.emod _ _
 have h2:Cg q (((1%q:Nat):Int)) ((1:Nat):Int):=by rw[Int.natCast_emod];exact Cg.emod _ _
 rw[←Int.natCast_mul];exact h1.symm.trans ((Cg.of_eq (by rw[h])).trans h2)
end Go.Dom
namespace Go.Dom
open Go.Num
theorem isMR_small {q:Nat} (h:isMR q=true):2≤q∧(q∈bases12∨ ∀p∈bases12,¬q%p=0):=by
 unfold isMR at h
 split at h
 ·exact absurd h (by decide)
 ·rename_i h2;refine⟨by omega,?_⟩
  split at h
  ·rename_i p hf;have:=List.mem_of_find?_eq_some hf;exact .inl (by rw[show q=p by simpa using h];exact this)
  ·rename_i hf;exact .inr fun p hp hz=>by
    have:=List.find?_eq_none.1 hf p hp;simp[hz]at this
theorem few_gcd {q a:Nat} (h:isMR q=true) (a0:0<a) (a8:a≤8) (hq:a<q):Nat.gcd a q=1:=by
 obtain⟨h2,h|h⟩:=isMR_small h
 ·have hd: ∀q∈bases12,∀a,a≤8→0<a→a<q→Nat.gcd a q=1:=by decide
  exact hd q h a a8 a0 hq
 ·have e2:=h 2 (by decide)
  have e3:=h 3 (by decide)
  have e5:=h 5 (by decide)
  have e7:=h 7 (by decide)
  rw[Nat.gcd_rec];obtain⟨r,hr⟩: ∃r,r=q%a:=⟨_,rfl⟩;rw[←hr];have hd: ∀a:Fin 9,∀r:Fin 9,r.1<a.1→(a.1%2=0∧r.1%2=0)∨(a.1%3=0∧r.1%3=0)∨(a.1%5=0∧r.1%5=0)∨(a.1%7=0∧r.1%7=0)∨Nat.gcd r.1 a.1=1:=by decide
  have hra:r<a:=hr▸Nat.mod_lt _ a0;have hm: ∀p,a%p=0→q%p≠0→r%p≠0:=fun p hp hq hz=>by
   rw[hr,Nat.mod_mod_of_dvd _ (Nat.dvd_of_mod_eq_zero hp)]at hz;exact hq hz
  rcases hd ⟨a,by omega⟩ ⟨r,by omega⟩ hra with⟨e,f⟩|⟨e,f⟩|⟨e,f⟩|⟨e,f⟩|e
  ·exact absurd f (hm 2 e e2)
  ·exact absurd f (hm 3 e e3)
  ·exact absurd f (hm 5 e e5)
  ·exact absurd f (hm 7 e e7)
  ·exact e
theorem few_unit {q a:Nat} (h:isMR q=true) (a0:0<a) (a8:a≤8) (hq:a<q):Unit' q a:=unit_of_gcd (by omega) (few_gcd h a0 a8 hq)
theorem few_iv {q a:Nat} (h:isMR q=true) (a0:0<a) (a8:a≤8) (hq:a<q):Iv q a:=by
 obtain⟨b,-,hb⟩:=few_unit h a0 a8 hq;exact Iv.of_nat hb
theorem few_sub {q a b:Nat} (h:isMR q=true) (hn:a≠b) (ha:a≤8) (hb:b≤8) (qa:a<q) (qb:b<q):Iv q ((a:Int)-b):=by
 rcases Nat.lt_or_gt_of_ne hn with g|g
 ·have:=(few_iv h (a:=b-a) (by omega) (by omega) (by omega)).neg
  exact this.cg (Cg.of_eq (by omega))
 ·have:=few_iv h (a:=a-b) (by omega) (by omega) (by omega)
  exact this.cg (Cg.of_eq (by omega))
theorem few_pts {q:Nat} (h:isMR q=true): ∀{l:List Nat},l.Nodup→(∀a∈l,a≤8∧a<q)→Pts q (l.map fun a:Nat=>(a:Int))
 |[],_,_=>trivial
 |a::l,hd,hb=>by
  have hd:=List.nodup_cons.1 hd;refine⟨fun x hx=> ?_,few_pts h hd.2 fun b hb'=>hb b (.tail _ hb')⟩
  obtain⟨b,hb',rfl⟩:=List.mem_map.1 hx;have ha:=hb a (.head _);have hbb:=hb b (.tail _ hb');exact few_sub h (fun e=>hd.1 (e▸hb')) hbb.1 ha.1 hbb.2 ha.2
end Go.Dom
