/-
  Part of the proof, part 47. Own work.
-/
import Derived.Test.YtmobkhegihemeaaGreatDoorM46
set_option linter.all false
namespace Go.Proofs.YtmobkhegihemeaaGreatDoor
open Go Go.Dom Go.Num
set_option maxRecDepth 100000
set_option maxHeartbeats 16000000
theorem OfM1:EvP Tryz.prog 70 [E (-1)] (.agg [.b true, .s [1]]):=by
 have hm:=made_ok true [1];refine eW Tryz.call70 Tryz.func70 ?_;repeat' first|simp only[go_sem,seval]|refine cP Of1 ?_|refine cP hm ?_|refine sB ?_|(first|apply pX|apply bX)<;>intro hc|refine⟨oD,?_⟩|exact oD|fail
 all_goals rfl
abbrev Shr (i:Nat) (d ch:Bytes) (rs:List Int):PV:= .agg [E i, .s d, .s ch, .sl (rs.map Zp), .sl [], .sl []]
theorem map_Zp (l:List Int):(l.map ipz).map ipv=l.map Zp:=by rw[List.map_map];rfl
theorem mk_i (a b:Int):keyEq false (.i .i64 a) (.i .i64 b)=some (decide (a=b)):=key_i a b
theorem k51_gE:gE [23] [11]=0:=by decide+kernel
theorem gp51 (n:Nat) (h1:n<23) (h2:Nat.gcd n 23=1) (h3:n^11%23=1):GP [23] [11] n:=⟨h1,h2, .inr h3⟩
theorem copen_ex {ch1 ch3:Bytes} {rs1 rs3:List Int} (l1:rs1.length<1000) (l3:rs3.length<1000) (v1:vfyZ [11] [2] (cctx K51 1) (cstm K51 1 [16] [18]) ch1 (rs1.map ipz) [] []=0) (v3:vfyZ [11] [2] (cctx K51 3) (cstm K51 3 [16] [1]) ch3 (rs3.map ipz) [] []=0):
  EvP Tryz.prog 23 [K51.pv,Cph [16] [9], .sl [Shr 1 [18] ch1 rs1,Shr 3 [1] ch3 rs3]] (.tup [.s [13],E 0]):=by
 have k:=courtE_0 k51_ok;have c0:=ccheck_ok K51 (by decide) (by decide) (by decide) (by decide)
 rw[k51_ok]at c0;have c1:=cchk_ok K51 (by decide) (by decide) (by decide) (by decide) k (i:=1) (by decide) (by decide) (A:=[16]) (B:=[9]) (d:=[18]) (by decide) (by decide+kernel) (by decide+kernel) (by decide+kernel) (ch:=ch1) (rs:=rs1.map ipz) (gs:=[]) (ls':=[]) (by simp;omega) (by simp) (by simp) (fun l h=>by cases h)
 have c3:=cchk_ok K51 (by decide) (by decide) (by decide) (by decide) k (i:=3) (by decide) (by decide) (A:=[16]) (B:=[9]) (d:=[1]) (by decide) (by decide+kernel) (by decide+kernel) (by decide+kernel) (ch:=ch3) (rs:=rs3.map ipz) (gs:=[]) (ls':=[]) (by simp;omega) (by simp) (by simp) (fun l h=>by cases h)
 rw[show K51.o=[11]from rfl]at c1 c3
 rw[v1]at c1;rw[v3]at c3;simp only[map_Zp,List.map_nil]at c1 c3;have a1:=cat_ok [23] [11] [4] [12] (pts:=[1,3]) (by simp) (by simp) (by decide)
 have a2:=cat2_ok (m:=[23]) (o:=[11]) (by decide) (by decide) k51_gE (by decide) (by decide+kernel) [4] [12] (pts:=[1,3]) (els:=[18,1]) (by simp) rfl (by decide) (by decide) (by simp) (fun x hx=>by
  simp only[List.mem_cons,List.not_mem_nil,or_false]at hx;rcases hx with rfl|rfl
  ·exact gp51 18 (by decide) (by decide) (by decide)
  ·exact gp51 1 (by decide) (by decide) (by decide)) (x:=0) (by decide)
 rw[show atV (num [23]) (num [11]) [1,3] [18,1] 0=6 from at13]at a2
 have p1:=gPrd_ok (m:=[23]) (o:=[11]) (by decide) (by decide) k51_gE (xs:=[9,6]) (es:=[(false,[1]),(true,[1])]) (fun x hx=>by
  simp only[List.mem_cons,List.not_mem_nil,or_false]at hx;rcases hx with rfl|rfl
  ·exact gp51 9 (by decide) (by decide) (by decide)
  ·exact gp51 6 (by decide) (by decide) (by decide)) (fun e he=>by
  simp only[List.mem_cons,List.not_mem_nil,or_false]at he;rcases he with rfl|rfl<;>rfl) rfl (by simp)
 have hz:prZ (num [23]) ([9,6].zip [(false,[1]),(true,[1])])=13:=by
  show prZ 23 [(9,(false,[1])),(6,(true,[1]))]=13;rw[prZ_cons,prZ_one];show powZ 23 9 false 1*powZ 23 6 true 1%23=13;have:invN 6 23=4:=invN_eq (by decide) (by decide)
  simp only[powZ,this];decide
 rw[hz]at p1;have z1:([9,6]:List Nat).map Npv=[.s [9], .s [6]]:=by kernel_rfl
 have z2:([18,1]:List Nat).map Npv=[.s [18], .s [1]]:=by kernel_rfl
 have z3:([1,3]:List Nat).map Npv=[.s [1], .s [3]]:=by kernel_rfl
 have z4:([1,3]:List Nat).map Epv=[E 1,E 3]:=rfl;have z5:([(false,[1]),(true,[1])]:List (Bool×Bytes)).map ipv=[.agg [.b false, .s [1]], .agg [.b true, .s [1]]]:=rfl;have z6:N 6= .s [6]:=by kernel_rfl
 have z7:N 13= .s [13]:=by kernel_rfl
 have o1:EvP Tryz.prog 70 [E 1] (.agg [.b false, .s [1]]):=Of1Z;simp only[capA,z3,z4]at a1 a2;rw[z2,z6]at a2;rw[z1,z5,z7]at p1;have hK:K51.pv= .agg [.s [99], .s [23], .s [11], .s [4], .s [12],E 2, .sl [.s [8], .s [13], .s [1]]]:=rfl;rw[hK]at c0 c1 c3⊢;clear k v1 v3 hz;refine eW Tryz.call23 Tryz.func23 ?_;repeat' first|simp only[go_sem,seval,List.getD_cons_zero,List.getD_cons_succ,mok,mval,mput,mk_i,Option.some.injEq,Bool.false_eq_true,Option.isSome_some]|refine cP c0 ?_|refine cP c1 ?_|refine cP c3 ?_|(refine CR_give [1081] a1 rfl (by simp[viewN,hget]) (by simp[mapO,view,hget,AV.one,PV.one,chunk]) ?_)|(refine CR_give [1086] a2 rfl (by simp[viewN,hget]) (by simp[mapO,view,hget,AV.one,PV.one,chunk]) ?_)|refine cP o1 ?_|refine cP OfM1 ?_|refine cP p1 ?_|(refine loop_unroll' ?_)|refine sB ?_|(first|apply pX|apply bX)<;>intro hc|refine⟨oD,?_⟩|exact oD|fail
theorem lnum_ok (n:Nat) (h:n<18446744073709551616):EvP Tryz.prog 15 [.i .u64 n] (N n):=by
 have h1:=rOf_ok n h;refine eW Tryz.call15 Tryz.func15 ?_;repeat' first|simp only[go_sem,seval]|refine cP h1 ?_|refine sB ?_|(first|apply pX|apply bX)<;>intro hc|refine⟨oD,?_⟩|exact oD|fail
theorem nums2:EvP Tryz.prog 24 [.sl [.i .u64 4, .i .u64 2]] (.sl [.s [4], .s [2]]):=by
 have a:EvP Tryz.prog 15 [.i .u64 4] (.s [4]):=lnum_ok 4 (by decide)
 have b:EvP Tryz.prog 15 [.i .u64 2] (.s [2]):=lnum_ok 2 (by decide)
 refine eW Tryz.call24 Tryz.func24 ?_;repeat' first|simp only[go_sem,seval,List.getD_cons_zero,List.getD_cons_succ]|refine cP a ?_|refine cP b ?_|(refine loop_unroll' ?_)|refine sB ?_|(first|apply pX|apply bX)<;>intro hc|refine⟨oD,?_⟩|exact oD|fail
 all_goals rfl
theorem nums3 {a b c:Nat} (ha:a<18446744073709551616) (hb:b<18446744073709551616) (hc:c<18446744073709551616):EvP Tryz.prog 24 [.sl [.i .u64 a, .i .u64 b, .i .u64 c]] (.sl [N a,N b,N c]):=by
 have a:=lnum_ok a ha;have b:=lnum_ok b hb;have c:=lnum_ok c hc;refine eW Tryz.call24 Tryz.func24 ?_;repeat' first|simp only[go_sem,seval,List.getD_cons_zero,List.getD_cons_succ]|refine cP a ?_|refine cP b ?_|refine cP c ?_|(refine loop_unroll' ?_)|refine sB ?_|(first|apply pX|apply bX)<;>intro hc|refine⟨oD,?_⟩|exact oD|fail
 all_goals rfl
theorem clone2 (a b:Bytes):EvP Tryz.prog 57 [.sl [.s a, .s b]] (.sl [.s a, .s b]):=by
 refine eW Tryz.call57 Tryz.func57 ?_;repeat' first|simp only[go_sem,seval]|refine sB ?_|(first|apply pX|apply bX)<;>intro hc|refine⟨oD,?_⟩|exact oD|fail
 all_goals rfl
theorem vals2 (a b:Bytes):EvP Tryz.prog 19 [.sl [.s a, .s b]] (T [a,b] [] 0):=by
 have h:=clone2 a b;refine eW Tryz.call19 Tryz.func19 ?_;repeat' first|simp only[go_sem,seval]|refine cP h ?_|refine sB ?_|(first|apply pX|apply bX)<;>intro hc|refine⟨oD,?_⟩|exact oD|fail
 all_goals rfl
theorem seed_ok (s:Bytes):EvP Tryz.prog 13 [.s s] (T [] s 0):=by
 refine eW Tryz.call13 Tryz.func13 ?_;repeat' first|simp only[go_sem,seval]|refine sB ?_|(first|apply pX|apply bX)<;>intro hc|refine⟨oD,?_⟩|exact oD|fail
 all_goals rfl
theorem same3 (a b c:Bytes):EvP Tryz.prog 25 [.sl [.s a, .s b, .s c], .sl [.s a, .s b, .s c]] (.b true):=by
 refine eW Tryz.call25 Tryz.func25 ?_;repeat' first|simp only[go_sem,seval,List.getD_cons_zero,List.getD_cons_succ,beq_self_eq_true,Bool.not_true]|(refine loop_unroll' ?_)|refine sB ?_|(first|apply pX|apply bX)<;>intro hc|refine⟨oD,?_⟩|exact oD|fail
 all_goals rfl
theorem rs_len {c sl ctx:Bytes} {s:Stm} {w:List Int} {vs:List Bytes} {sd:Bytes} {a:Int} {ch:Bytes} {rs:List Int} {j:Nat} (h:prvZ c sl ctx s w vs sd a= .ok (ch,rs,j)):rs.length=s.vars.length:=by
 obtain⟨i',ms,z,-,-,-,rfl⟩:=tryZ_ok (prvZ_try h);exact rspZ_len ..
theorem awake51_ok:EvP Tryz.prog 8 [] (.b true):=by
 obtain⟨⟨ch1,rs1,j1⟩,p1⟩:=ok_ex prv1;obtain⟨⟨ch3,rs3,j3⟩,p3⟩:=ok_ex prv3;have k:=courtE_0 k51_ok;have g16:GP K51.m K51.o (num [16]):=gp51 16 (by decide) (by decide) (by decide)
 have s1:=cshare_ok K51 (by decide) (by decide) (by decide) (by decide) k51_ok (i:=1) (by decide) (by decide) (x:=[7]) (A:=[16]) (B:=[9]) (vs:=[]) (sd:=[97]) (a:=0) (by simp) (by simp) (by decide) (by decide) (by decide+kernel) (by decide+kernel) (by decide) (by decide+kernel) (d:=18) (by decide+kernel) p1
 have s3:=cshare_ok K51 (by decide) (by decide) (by decide) (by decide) k51_ok (i:=3) (by decide) (by decide) (x:=[]) (A:=[16]) (B:=[9]) (vs:=[]) (sd:=[98]) (a:=0) (by simp) (by simp) (by decide) (by decide) (by decide+kernel) (by decide+kernel) (by decide) (by decide+kernel) (d:=1) (by decide+kernel) p3
 have v1:=conv_c k (by decide) g16 (by decide+kernel) (by decide+kernel) p1
 have v3:=conv_c k (by decide) g16 (by decide+kernel) (by decide+kernel) p3
 have l1:rs1.length<1000:=by rw[rs_len p1];decide
 have l3:rs3.length<1000:=by rw[rs_len p3];decide
 have op:=copen_ex l1 l3 v1 v3;have fo:=found_ok (name:=[99]) (m:=[23]) (o:=[11]) (by decide) (by decide) (by decide) [4] 2 (count:=3) (by decide) (vs:=[[4],[2]]) (sd:=[]) (a:=0) (by simp) (by simp)
 rw[fnd51]at fo;rw[show fndP [99] [23] [11] [4] 2 [[4],[2]] [] (.ok (12,[7,9,0],2))= .tup [.agg [.s [99], .s [23], .s [11], .s [4], .s [12],E 2, .sl [.s [8], .s [13], .s [1]]], .sl [.s [7], .s [9], .s []],T [[4],[2]] [] 2,E 0] by kernel_rfl]at fo
 have hK:K51.pv= .agg [.s [99], .s [23], .s [11], .s [4], .s [12],E 2, .sl [.s [8], .s [13], .s [1]]]:=rfl;rw[hK]at s1 s3 op;rw[show N 18= .s [18]from rfl]at s1
 rw[show N 1= .s [1]from rfl]at s3
 have n: ∀(x:Nat) (b:Bytes),x<18446744073709551616→bts x=b→EvP Tryz.prog 15 [.i .u64 x] (.s b):=fun x b hx hb=>by rw[←hb];exact lnum_ok x hx
 have n23:=n 23 [23] (by decide) rfl
 have n11:=n 11 [11] (by decide) rfl
 have n4:=n 4 [4] (by decide) rfl
 have n12:=n 12 [12] (by decide) rfl
 have n16:=n 16 [16] (by decide) rfl
 have n9:=n 9 [9] (by decide) rfl
 have n7:=n 7 [7] (by decide) rfl
 have n0:=n 0 [] (by decide) rfl
 have n18:=n 18 [18] (by decide) rfl
 have n1:=n 1 [1] (by decide) rfl
 have n13:=n 13 [13] (by decide) rfl
 have m1:EvP Tryz.prog 24 [.sl [.i .u64 7, .i .u64 9, .i .u64 0]] (.sl [.s [7], .s [9], .s []]):=nums3 (a:=7) (b:=9) (c:=0) (by decide) (by decide) (by decide)
 have m2:EvP Tryz.prog 24 [.sl [.i .u64 8, .i .u64 13, .i .u64 1]] (.sl [.s [8], .s [13], .s [1]]):=nums3 (a:=8) (b:=13) (c:=1) (by decide) (by decide) (by decide)
 have vv:=vals2 [4] [2];have sa:=seed_ok [97];have sb:=seed_ok [98];have q1:=same3 [7] [9] [];have q2:=same3 [8] [13] [1];simp only[show((1:Nat):Int)=1 from rfl,show((3:Nat):Int)=3 from rfl,show((23:Nat):Int)=23 from rfl,show((11:Nat):Int)=11 from rfl,show((4:Nat):Int)=4 from rfl,show((12:Nat):Int)=12 from rfl,show((16:Nat):Int)=16 from rfl,show((9:Nat):Int)=9 from rfl,show((7:Nat):Int)=7 from rfl,show((0:Nat):Int)=0 from rfl,show((18:Nat):Int)=18 from rfl,show((13:Nat):Int)=13 from rfl]at s1 s3 op n23 n11 n4 n12 n16 n9 n7 n0 n18 n1 n13
 clear p1 p3 k v1 v3 hK n;refine eW Tryz.call8 Tryz.func8 ?_;repeat' first|simp only[go_sem,seval,beq_self_eq_true,bne_self_eq_false,Bool.not_true]|refine cP n23 ?_|refine cP n11 ?_|refine cP n4 ?_|refine cP nums2 ?_|refine cP vv ?_|refine cP fo ?_|refine cP n12 ?_|refine cP m1 ?_|refine cP q1 ?_|refine cP m2 ?_|refine cP q2 ?_|refine cP n16 ?_|refine cP n9 ?_|refine cP n7 ?_|refine cP sa ?_|refine cP s1 ?_|refine cP n0 ?_|refine cP sb ?_|refine cP s3 ?_|refine cP op ?_|refine cP n18 ?_|refine cP n1 ?_|refine cP n13 ?_|refine sB ?_|(first|apply pX|apply bX)<;>intro hc|refine⟨oD,?_⟩|exact oD|fail
 all_goals rfl
end Go.Proofs.YtmobkhegihemeaaGreatDoor
namespace Go.Dom
open Go.Num
theorem pr60: ∀q∈List.range 61,isMR q=true→ ∀a∈List.range q,0<a→Nat.gcd a q=1:=by decide+kernel
theorem hide_inj {q k s b b':Nat} (hg:Nat.gcd k q=1) (h0:0<q) (hb:b<q) (hb':b'<q) (h:(b*k%q+s)%q=(b'*k%q+s)%q):b=b':=by
 obtain⟨i,-,hi⟩:=unit_of_gcd h0 hg;have c1:Cg q ((b*k+s:Nat):Int) ((b'*k+s:Nat):Int):=by
  have e:(b*k+s)%q=(b'*k+s)%q:=by rw[Nat.add_mod,←Nat.mod_mod (b*k),←Nat.add_mod,h,Nat.add_mod,Nat.mod_mod,←Nat.add_mod]
  have g1:=Cg.emod q ((b*k+s:Nat):Int);have g2:=Cg.emod q ((b'*k+s:Nat):Int);rw[←Int.natCast_emod]at g1 g2;rw[e]at g1;exact g1.symm.trans g2
 have c2:Cg q ((k:Int)*((b:Int)-b')) 0:=by
  obtain⟨t,ht⟩:=c1;exact⟨t,by push_cast at ht;grind⟩
 obtain⟨t,ht⟩:=(Iv.of_nat hi).cancel c2;have c4:Cg q (b:Int) (b':Int):=⟨t,by omega⟩
 have:=c4.eq_of (by omega) (by omega) (by omega) (by omega)
 omega
end Go.Dom
namespace Go.Proofs.YtmobkhegihemeaaGreatDoor
open Go Go.Dom Go.Num
set_option maxRecDepth 100000
set_option maxHeartbeats 16000000
def few51B (name m o base:Bytes) (count:Int):Bool:=decide (name.length≤60∧m.length≤8∧o.length≤8∧base.length≤12∧(count≤8∨count>255))
abbrev Fdg (name m o base:Bytes) (need count:Int):PV:= .agg [.s name, .s m, .s o, .s base,E need,E count]
theorem few51_ok (name m o base:Bytes) (need count:Int):EvP Tryz.prog 11 [Fdg name m o base need count] (.b (few51B name m o base count)):=by
 by_cases h1:name.length≤60
 case neg=>
  rw[show few51B name m o base count=false from decide_eq_false fun h=>h1 h.1]
  refine eW Tryz.call11 Tryz.func11 ?_;repeat' first|simp only[go_sem,seval]|refine sB ?_|(first|apply pX|apply bX)<;>intro hc|refine⟨oD,?_⟩|exact oD|fail
 by_cases h2:m.length≤8
 case neg=>
  rw[show few51B name m o base count=false from decide_eq_false fun h=>h2 h.2.1]
  refine eW Tryz.call11 Tryz.func11 ?_;repeat' first|simp only[go_sem,seval]|refine sB ?_|(first|apply pX|apply bX)<;>intro hc|refine⟨oD,?_⟩|exact oD|fail
 by_cases h3:o.length≤8
 case neg=>
  rw[show few51B name m o base count=false from decide_eq_false fun h=>h3 h.2.2.1]
  refine eW Tryz.call11 Tryz.func11 ?_;repeat' first|simp only[go_sem,seval]|refine sB ?_|(first|apply pX|apply bX)<;>intro hc|refine⟨oD,?_⟩|exact oD|fail
 by_cases h4:base.length≤12
 case neg=>
  rw[show few51B name m o base count=false from decide_eq_false fun h=>h4 h.2.2.2.1]
  refine eW Tryz.call11 Tryz.func11 ?_;repeat' first|simp only[go_sem,seval]|refine sB ?_|(first|apply pX|apply bX)<;>intro hc|refine⟨oD,?_⟩|exact oD|fail
 by_cases h5:count≤8
 ·rw[show few51B name m o base count=true from decide_eq_true ⟨h1,h2,h3,h4, .inl h5⟩]
  refine eW Tryz.call11 Tryz.func11 ?_;repeat' first|simp only[go_sem,seval]|refine sB ?_|(first|apply pX|apply bX)<;>intro hc|refine⟨oD,?_⟩|exact oD|fail
 by_cases h6:count>255
 ·rw[show few51B name m o base count=true from decide_eq_true ⟨h1,h2,h3,h4, .inr h6⟩]
  refine eW Tryz.call11 Tryz.func11 ?_;repeat' first|simp only[go_sem,seval]|refine sB ?_|(first|apply pX|apply bX)<;>intro hc|refine⟨oD,?_⟩|exact oD|fail
  all_goals rw[decide_eq_true h6]
 ·rw[show few51B name m o base count=false from decide_eq_false fun h=>h.2.2.2.2.elim h5 h6]
  refine eW Tryz.call11 Tryz.func11 ?_;repeat' first|simp only[go_sem,seval]|refine sB ?_|(first|apply pX|apply bX)<;>intro hc|refine⟨oD,?_⟩|exact oD|fail
  all_goals rw[decide_eq_false h6]
theorem pow_ne1 {m o base:Bytes} (hE:gE m o=0) (ho:o≠[]) (gp:GP m o (num base)) (b1:num base≠1) (hp:isMR (num o)=true) (hs:num o≤60) {k:Nat} (k0:0<k) (kq:k<num o):num base^k%num m≠1:=by
 intro h;obtain⟨-,-,m1,-,-⟩:=gE_m hE;have h1:1%num m=1:=Nat.mod_eq_of_lt m1;have hg:=pr60 (num o) (List.mem_range.2 (by omega)) hp k (List.mem_range.2 kq) k0
 obtain⟨i,-,hi⟩:=unit_of_gcd (by omega) hg
 have ord:num base^num o%num m=1%num m:=gp.ord.resolve_left ho;have:=pow_iv (m:=num m) (q:=num o) (unit_of_gcd (by omega) gp.cop) (by omega) ord (Iv.of_nat hi) (by rw[powI_nn,h,h1])
 have e:=powI_nn (m:=num m) (x:=num base) 1;rw[Nat.pow_one,Nat.mod_eq_of_lt gp.lt]at e;rw[h1]at this;exact b1 (e.symm.trans this)
theorem hnP2 (q sec b x:Nat) (hb:b<q):(hnP (q:Int) (nI [sec,b]) (x:Int)).toNat=(b*x%q+sec)%q:=by
 have e:hnP (q:Int) (nI [sec,b]) (x:Int)=(((0*x%q+(b:Int))%q*x%q+sec)%q:Int):=rfl;have z:((0:Int)*x%q+(b:Int))%q=b:=by rw[Int.zero_mul,Int.zero_emod,Int.zero_add];exact Int.emod_eq_of_lt (by omega) (by omega)
 rw[e,z,show(((b:Int)*x%q+sec)%q)=(((b*x%q+sec)%q:Nat):Int) by push_cast;rfl,Int.toNat_natCast]
theorem shrs3 (q sec b:Nat) (hb:b<q) (hq:q<18446744073709551616):shrs q sec [bts b] 3=[(b*1%q+sec)%q,(b*2%q+sec)%q,(b*3%q+sec)%q]:=by
 have e:=fun x=>hnP2 q sec b x hb
 unfold shrs;rw[show List.range 3=[0,1,2]from rfl]
 simp only[List.map_cons,List.map_nil,num_bts];rw[e,e,e]
structure Reg (m o base:Bytes):Prop where
 lm:m.length≤8
 lo:o.length≤8
 vo:validN o=true
 q4:4≤num o
 q60:num o≤60
 pe:pgE m o=0
 pg:pgHas m o base=true
 b1:base≠[1]
theorem Reg.all {m o base:Bytes} (r:Reg m o base):gE m o=0∧o≠[]∧GP m o (num base)∧isMR (num o)=true∧validN m=true∧validN base=true:=by
 obtain⟨lm,lo,vo,q4,q60,pe,pg,b1⟩:=r;unfold pgE at pe;have ho:o≠[]:=fun e=>by subst e;simp[num]at q4
 split at pe
 ·cases pe
 ·rename_i h1
  split at pe
  ·cases pe
  ·split at pe
   ·cases pe
   ·rename_i h3
    split at pe
    ·cases pe
    ·split at pe
     ·cases pe
     ·rename_i h5
      split at pe
      ·rename_i h6;have hv:validN m=true∧validN o=true:=by simpa using h1
       have h3:isMR (num m)=true:=by simpa using h3
       have h5:isMR (num o)=true:=by simpa using h5
       have hm:=(isMR_small h3).1;have hob:(o==([]:Bytes))=false:=by simpa using ho
       have hE:gE m o=0:=by
        unfold gE;rw[hv.1,hv.2,hob];simp only[Bool.and_self,Bool.not_true,Bool.false_eq_true,if_false];rw[if_neg (by omega)]
       have hh:gHas m o base=true:=by unfold gHas;rw[hob];exact pg
       obtain⟨vb,gp⟩:=(gHas_iff hE).1 hh;exact⟨hE,ho,gp,h5,hv.1,vb⟩
      ·cases pe
def shr1 (q s b k:Nat):Nat:=(b*k%q+s)%q
theorem hfound {m o base:Bytes} (r:Reg m o base) {s b:Nat} (hs:s<num o-1) (hb:b<num o): ∃y S,EvP Tryz.prog 12 [.s [99],G m o, .s base,E 2,E 3,T [bts s,bts b] [] 0] (.tup [.agg [.s [99], .s m, .s o, .s base,N y,E 2, .sl S], .sl [N (shr1 (num o) (s+1) b 1),N (shr1 (num o) (s+1) b 2),N (shr1 (num o) (s+1) b 3)],T [bts s,bts b] [] 2,E 0]):=by
 obtain⟨hE,ho,gp,hp,vm,vb⟩:=r.all;obtain⟨lm,lo,vo,q4,q60,pe,pg,b1⟩:=r;have hW:=W64_LIM;have fo:=found_ok (name:=[99]) (m:=m) (o:=o) (by decide) lm lo base 2 (count:=3) (by decide) (vs:=[bts s,bts b]) (sd:=[]) (a:=0) (by simp) (by simp)
 have hv:[bts s,bts b].all validN=true:=by simp[vN (show s<18446744073709551616 by omega),vN (show b<18446744073709551616 by omega)]
 have hg:goodT [bts s,bts b] 0=true:=goodT_of (i:=0) hv (by decide)
 have hob:(o==([]:Bytes))=false:=by simpa using ho
 have hsg:sgB m o base=true:=by
  unfold sgB gIn gHas;rw[hob,hE];simp only[Bool.false_eq_true,if_false];rw[pg];simpa using b1
 have nb1:num base≠1:=fun e=>b1 (by have:=bts_of vb;rw[e]at this;exact this.symm)
 have d1:drawO [bts s,bts b] [] 0 (bts (num o-1))= .ok (bts s):=by
  unfold drawO;rw[if_pos (by simp)]
  simp only[List.getD_cons_zero,num_bts];rw[if_neg (by omega)]
 have d2:drawO [bts s,bts b] [] 1 (bts (num o))= .ok (bts b):=by
  unfold drawO;rw[if_pos (by simp)]
  simp only[List.getD_cons_succ,List.getD_cons_zero,num_bts];rw[if_neg (by omega)]
 have hne:=pow_ne1 hE ho gp nb1 hp q60 (k:=s+1) (by omega) (by omega)
 have es:schO m o base [bts s,bts b] [] 0= .ok (num base^(s+1)%num m,s+1,1):=by
  unfold schO;rw[hg,hsg,hob];simp only[List.all_cons,List.all_nil,vm,vo,vb,hE,Bool.and_self,Bool.not_true,Bool.or_self,Bool.false_eq_true,if_false,ne_eq,not_true,Int.toNat_zero,d1,num_bts,if_neg hne,Nat.zero_add]
 have ep:splO (num o) (s+1) 2 3 [bts s,bts b] [] 1= .ok ([shr1 (num o) (s+1) b 1,shr1 (num o) (s+1) b 2,shr1 (num o) (s+1) b 3],2):=by
  unfold splO;rw[hp,if_neg (by simp),if_neg (by omega)]
  have:manyO [bts s,bts b] [] (bts (num o)) (2-1:Int).toNat 1 []= .ok [bts b]:=by
   rw[show(2-1:Int).toNat=0+1 from rfl,manyO,d2];rfl
  rw[this];simp only;rw[show(3:Int).toNat=3 from rfl,shrs3 _ _ _ hb (by omega)]
  rfl
 have ef:fndO [99] m o base 2 3 [bts s,bts b] [] 0= .ok (num base^(s+1)%num m,[shr1 (num o) (s+1) b 1,shr1 (num o) (s+1) b 2,shr1 (num o) (s+1) b 3],2):=by
  unfold fndO;rw[hg,es];simp only[List.all_cons,List.all_nil,vm,vo,vb,Bool.and_self,Bool.not_true,Bool.or_self,Bool.false_eq_true,if_false,ep,show nameB [99]=true by decide]
 rw[ef]at fo;exact⟨_,_,fo⟩
def metL (f:Nat→Nat) (q b:Nat):List Bool:=(List.range q).map fun j=>(List.range b).any fun c=>f c==j
theorem metL_len (f:Nat→Nat) (q b:Nat):(metL f q b).length=q:=by simp[metL]
theorem metL_0 (f:Nat→Nat) (q:Nat):metL f q 0=List.replicate q false:=by
 unfold metL;refine List.ext_getElem? fun t=> ?_
 by_cases ht:t<q
 ·rw[List.getElem?_map,List.getElem?_range ht,List.getElem?_replicate,if_pos ht];rfl
 ·rw[List.getElem?_eq_none (by simp;omega),List.getElem?_eq_none (by simp;omega)]
theorem metL_get {f:Nat→Nat} {q b j:Nat} (h:j<q):(metL f q b).getD j false=(List.range b).any fun c=>f c==j:=by
 rw[metL,List.getD_eq_getElem?_getD,List.getElem?_map,List.getElem?_range h];rfl
theorem metL_new {f:Nat→Nat} {q b:Nat} (hi: ∀c,c<b→f c≠f b) (h:f b<q):(metL f q b).getD (f b) false=false:=by
 rw[metL_get h,List.any_eq_false];intro c hc;simpa using hi c (List.mem_range.1 hc)
theorem metL_step {f:Nat→Nat} {q b:Nat} (h:f b<q):(metL f q b).set (f b) true=metL f q (b+1):=by
 refine List.ext_getElem? fun t=> ?_
 by_cases ht:t<q
 ·by_cases e:f b=t
  ·subst e;rw[List.getElem?_set_self (by rw[metL_len];exact h),metL,List.getElem?_map,List.getElem?_range h]
   simp[List.range_succ]
  ·rw[List.getElem?_set_ne e,metL,metL,List.getElem?_map,List.getElem?_map,List.getElem?_range ht];simp[List.range_succ,e]
 ·rw[List.getElem?_eq_none (by rw[List.length_set,metL_len];omega),List.getElem?_eq_none (by rw[metL_len];omega)]
def bcells (l:List Bool):List AV:=l.map fun x=> .v (.b x)
theorem bcells_len (l:List Bool):(bcells l).length=l.length:=by simp[bcells]
theorem bcells_rep (n:Nat):(List.replicate n [AV.v (.b false)]).flatten=bcells (List.replicate n false):=by
 induction n with
 |zero=>rfl
 |succ n ih=>simp only[List.replicate_succ,List.flatten_cons,ih];rfl
theorem bcells_get {l:List Bool} {i:Nat} (h:i<l.length):(bcells l).getD i .u= .v (.b (l.getD i false)):=by
 simp[bcells,List.getD_eq_getElem?_getD,List.getElem?_map,List.getElem?_eq_getElem h]
theorem bcells_put {l:List Bool} {o:Nat} {x:Bool} (h:o<l.length):(bcells l).take o++[.v (.b x)]++(bcells l).drop (o+1)=bcells (l.set o x):=by
 rw[bcells,bcells,←List.map_take,←List.map_drop,List.set_eq_take_append_cons_drop,if_pos h];simp
theorem bd_bc {l:List Bool} {c:AV} {n:Nat} (h:c∈bcells l):c.bd n=true:=by
 obtain⟨x,-,rfl⟩:=List.mem_map.1 h;rfl
end Go.Proofs.YtmobkhegihemeaaGreatDoor
namespace Go.Proofs.YtmobkhegihemeaaGreatDoor
open Go Go.Dom Go.ChangeShapes Go.WideShapes Go.ChangeAt Go.RowKit
set_option maxRecDepth 100000
theorem uI0:Tryz.prog.underlying 3=some (.int .i64):=by kernel_rfl
theorem uU8:Tryz.prog.underlying 5=some (.int .u8):=by kernel_rfl
theorem cI0:Tryz.prog.cellsOf 3=1:=by kernel_rfl
theorem okFd:okT Tryz.prog 9 36=true:=by kernel_rfl
theorem typFd {ps:List PV} (h:Typ Tryz.prog 9 36 ps): ∃(name m o base:Bytes) (need count:Int), .agg ps=Fdg name m o base need count:=by
 rw[Typ,Tryz.underlying36]at h;simp only[TypS,cN,cS,cGr,cI0]at h;obtain⟨h1,h2,h3,h4,h5,h6⟩:=h;obtain⟨a,h1⟩:=typSt h1;obtain⟨m,o,h2⟩:=typGr h2;obtain⟨b,h3⟩:=typN h3;simp only[Typ,uI0]at h4 h5;obtain⟨n,h4,-⟩:=h4;obtain⟨c,h5,-⟩:=h5;refine⟨a,m,o,b,n,c,?_⟩;rw[tk h1,tk2 h2,tk h3,tk h4,tk h5,h6]
theorem trod_int1 {H:Type} {enc:TypeId×Value→H} {P:Program} {w:World} {sp:Nat→Bool} {t:TypeId} {q:IntKind} {n:Int} {d:DataW H} {ps:List MemPlace} (hu:P.underlying t=some (.int q)) (h:DataW.Trod enc P w 0 sp true t (.int q n) d ps):(Lit.int q n).wf=true:=by
 obtain⟨f,h⟩:=h
 cases f with
 |zero=>simp[DataW.trod]at h
 |succ f=>
  obtain⟨m,e,hm⟩:=trod_int h hu;have e:[Value.int q n]=[Value.int q m]:=e;injection e with e _
  injection e with _ e
  rw[e];exact hm
theorem wf_u8 {z:Int} (h:(Lit.int .u8 z).wf=true): ∃x:Nat,z=x∧x<256:=by
 have h1:(decide ((0:Int)≤z)&&decide (z≤255))=true:=h;simp only[Bool.and_eq_true,decide_eq_true_eq]at h1;exact⟨z.toNat,by omega,by omega⟩
end Go.Proofs.YtmobkhegihemeaaGreatDoor
namespace Go.Proofs.YtmobkhegihemeaaGreatDoor
open Go Go.Dom Go.Num
set_option maxRecDepth 100000
set_option maxHeartbeats 16000000
theorem bcells_take {l:List Bool} {n:Nat} (h:l.length=n):List.take n (bcells l)=bcells l:=List.take_of_length_le (by rw[bcells_len];omega)
theorem chides (name m o base:Bytes) (need count:Int) {sec hid:Nat} (hsec:sec<256) (hhid:hid<256):EvP Tryz.prog 5 [Fdg name m o base need count, .i .u8 sec, .i .u8 hid] (.b true):=by
 have hf:=few51_ok name m o base need count;have hsm:=rSmall_ok o;have ha:=awake51_ok;have hW:=W64_LIM
 cases hfb:few51B name m o base count with
 |false=>
  rw[hfb]at hf;generalize (if validN o&&decide (o.length≤8)then num o else 0)=n at*
  generalize (validN o&&decide (o.length≤8))=b at*;refine eW Tryz.call5 Tryz.func5 ?_;repeat' first|simp only[go_sem,seval]|refine cP hsm ?_|refine cP hf ?_|refine cP ha ?_|refine sB ?_|(first|apply pX|apply bX)<;>intro hc|refine⟨oD,?_⟩|exact oD|fail
  all_goals rfl
 |true=>
 rw[hfb]at hf;obtain⟨-,lm,lo,-,-⟩:=of_decide_eq_true hfb;rw[decide_eq_true lo,Bool.and_true]at hsm
 cases hvo:validN o with
 |false=>
  rw[hvo]at hsm;simp only[Bool.false_eq_true,if_false]at hsm;refine eW Tryz.call5 Tryz.func5 ?_;repeat' first|simp only[go_sem,seval]|refine cP hsm ?_|refine cP hf ?_|refine cP ha ?_|refine sB ?_|(first|apply pX|apply bX)<;>intro hc|refine⟨oD,?_⟩|exact oD|fail
  all_goals rfl
 |true=>
 rw[hvo]at hsm;simp only[if_true]at hsm;have hqW:=num8 lo;have hpe:=pgCheck_ok m o;have hpg:=pgGen_ok lm o base;obtain⟨q,hq⟩: ∃q,q=num o:=⟨_,rfl⟩;rw[←hq]at hsm hqW
 by_cases q4:q<4
 ·refine eW Tryz.call5 Tryz.func5 ?_;repeat' first|simp only[go_sem,seval]|refine cP hsm ?_|refine cP hf ?_|refine cP ha ?_|refine sB ?_|(first|apply pX|apply bX)<;>intro hc|refine⟨oD,?_⟩|exact oD|fail
  all_goals rfl
 by_cases q60:q>60
 ·refine eW Tryz.call5 Tryz.func5 ?_;repeat' first|simp only[go_sem,seval]|refine cP hsm ?_|refine cP hf ?_|refine cP ha ?_|refine sB ?_|(first|apply pX|apply bX)<;>intro hc|refine⟨oD,?_⟩|exact oD|fail
  all_goals rfl
 by_cases pe:pgE m o=0
 case neg=>
  generalize pgE m o=e at*;refine eW Tryz.call5 Tryz.func5 ?_;repeat' first|simp only[go_sem,seval]|refine cP hsm ?_|refine cP hf ?_|refine cP ha ?_|refine cP hpe ?_|refine sB ?_|(first|apply pX|apply bX)<;>intro hc|refine⟨oD,?_⟩|exact oD|fail
  all_goals rfl
 rw[pe]at hpe
 cases pg:(pgHas m o base&& !(base==[1]))with
 |false=>
  rw[pg]at hpg;refine eW Tryz.call5 Tryz.func5 ?_;repeat' first|simp only[go_sem,seval]|refine cP hsm ?_|refine cP hf ?_|refine cP ha ?_|refine cP hpe ?_|refine cP hpg ?_|refine sB ?_|(first|apply pX|apply bX)<;>intro hc|refine⟨oD,?_⟩|exact oD|fail
  all_goals rfl
 |true=>
 rw[pg]at hpg;have hpg2:pgHas m o base=true∧base≠[1]:=by simpa using pg
 have r:Reg m o base:=⟨lm,lo,hvo,by omega,by omega,pe,hpg2.1,hpg2.2⟩
 obtain⟨hE,ho,gp,hp,vm,vb⟩:=r.all;obtain⟨s,hs⟩: ∃s,s=sec%(q-1):=⟨_,rfl⟩;have hsq:s<q-1:=by rw[hs];exact Nat.mod_lt _ (by omega)
 refine eW Tryz.call5 Tryz.func5 ?_;repeat' first|simp only[go_sem,seval,bcells_rep]|refine cP hsm ?_|refine cP hf ?_|refine cP ha ?_|refine cP hpe ?_|refine cP hpg ?_|refine sB ?_|(first|apply pX|apply bX)<;>intro hc|refine⟨oD,?_⟩|exact oD|fail
 obtain⟨f,hf2⟩: ∃f:Nat→Nat,f=fun b=>shr1 q (s+1) b (hid%3+1):=⟨_,rfl⟩
 have hfq: ∀b,f b<q:=fun b=>by rw[hf2];exact Nat.mod_lt _ (by omega)
 have hg:=pr60 q (List.mem_range.2 (by omega)) (by rw[hq];exact hp) (hid%3+1) (List.mem_range.2 (by omega)) (by omega)
 have hinj: ∀c b,c<b→b<q→f c≠f b:=fun c b h1 h2 e=>by
  rw[hf2]at e;have:=hide_inj hg (by omega) (show c<q by omega) h2 e
  omega
 rw[←metL_0 f q];refine loop_run (α:=Nat) (fun b=>q-b) (fun b=>⟨[(0, .v (Fdg name m o base need count)),(1, .v (.i .u8 sec)),(2, .v (.i .u8 hid)),(3, .p 1000 0 0),(6, .v (.b false)),(7, .v (.i .u64 q)),(9, .rs 1041 0 0 q 1),(10, .v (.i .u64 b))],[(1000,⟨0,[.v (.s name), .v (.s m), .v (.s o), .v (.s base), .v (E need), .v (E count)],false,none⟩),(1041,⟨0,bcells (metL f q b),false,none⟩)],1044⟩) (fun b=>b≤q) 0 (fun _=>Nat.le_of_ble_eq_true rfl) (Nat.zero_le _) ?_ ?_
 ·(refine AS.Le.of (by first|decide|omega) ?_ ?_<;>simp[LeT,LeH,tget,hget,AV.bd,AV.bd.bdL,u8,bd_cellsOf,bcells_bd,icells_bd])
  all_goals exact fun c hc=>bd_bc hc
 ·intro b hb R hR
  by_cases hlt:b<q
  ·have hgo:=hR (b+1) (by omega) (by omega)
   obtain⟨y,S,fo⟩:=hfound r (s:=s) (b:=b) (by omega) (by omega)
   have n1:=lnum_ok s (by omega)
   have n2:=lnum_ok b (by omega)
   have vv:=vals2 (bts s) (bts b);rw[←hq]at fo;have hz: ∀k,shr1 q (s+1) b k<18446744073709551616:=fun k=>by have:=Nat.mod_lt (b*k%q+(s+1)) (show 0<q by omega);unfold shr1;omega
   have hts:((sec:Nat):Int).tmod ((q:Int)-1)=(s:Nat):=by
    rw[hs,Int.tmod_eq_emod_of_nonneg (by omega),show((q:Int)-1)=((q-1:Nat):Int) by omega];rfl
   have hfb:=hfq b;have hnw:=metL_new (fun c hc=>hinj c b hc hlt) hfb
   have hst:=metL_step (f:=f) (b:=b) hfb;rw[←hst]at hgo;have hfv:f b=shr1 q (s+1) b (hid%3+1):=by rw[hf2]
   obtain⟨v,hv⟩: ∃v,v=f b:=⟨_,rfl⟩;rw[←hv]at hfb hnw hgo;have sm:=rSmall_ok (bts v);rw[vN (show v<18446744073709551616 by omega),decide_eq_true (lN (show v<18446744073709551616 by omega)),num_bts]at sm
   simp only[Bool.and_self,if_true]at sm;have hml:=metL_len f q b;generalize metL f q b=M at*;have g0:(bcells M).length=q:=by rw[bcells_len,hml]
   have g1:(bcells M).getD v .u= .v (.b false):=by rw[bcells_get (by omega),hnw]
   have g2:List.take v (bcells M)++[AV.v (.b true)]++List.drop (v+1) (bcells M)=bcells (M.set v true):=bcells_put (by omega)
   have h3:hid%3=0∨hid%3=1∨hid%3=2:=by omega
   have htm:((hid:Nat):Int).tmod 3=((hid%3:Nat):Int):=by rw[Int.tmod_eq_emod_of_nonneg (by omega)];rfl
   clear hR hinj hfq hf2 hz hst;rcases h3 with e|e|e
   all_goals
    rw[e]at htm hfv;simp only[Nat.zero_add,Nat.reduceAdd]at hfv;rw[←hfv,←hv]at fo;repeat' first|simp only[go_sem,seval,hts,htm,List.getD_cons_zero,List.getD_cons_succ,g0,g1,g2]|refine cP n1 ?_|refine cP n2 ?_|refine cP vv ?_|refine cP fo ?_|refine cP sm ?_|refine sB ?_|(first|apply pX|apply bX)<;>intro hc|refine⟨oD,?_⟩|exact oD|fail
    refine hgo _ ?_
    (refine AS.Le.of (by first|decide|omega) ?_ ?_<;>simp[LeT,LeH,tget,hget,AV.bd,AV.bd.bdL,u8,bd_cellsOf,bcells_bd,icells_bd])
    all_goals exact fun c hc=>bd_bc hc
  ·obtain rfl:b=q:=by omega
   clear hR hinj hfq hf2;repeat' first|simp only[go_sem,seval]|refine cP ha ?_|refine sB ?_|(first|apply pX|apply bX)<;>intro hc|refine⟨oD,?_⟩|exact oD|fail
   all_goals rfl
end Go.Proofs.YtmobkhegihemeaaGreatDoor
namespace Go.Proofs.YtmobkhegihemeaaGreatDoor
open Go Go.Dom Go.ChangeShapes Go.WideShapes Go.ChangeAt Go.RowKit
set_option maxRecDepth 100000
theorem hides_lifted (os:Os) (started:os.Started) (H:Type) (enc:TypeId×Value→H):
  ReturnsInHanded {} Tryz.checked os 5 .any (fun w args=>(Rows.courtHidesSpec.pre enc Tryz.prog Tryz.f5 [] false w args∧laidMetH Tryz.prog laidL w)∧sizedMet enc Tryz.prog Tryz.f5 (OpenSpec.ofChange Rows.courtHidesSpec) false w args)
   (Rows.courtHidesSpec.post enc Tryz.prog Tryz.f5 false true false false):=by
 refine returnsInHanded_of_change_and (C:=Tryz.checked) (X:=fun w _=>laidMetH Tryz.prog laidL w) (fun _ _ _ hh h=>h.of_heap hh) ownK started (by kernel_rfl) Tryz.func5
  (ChangeSpec.witness_shaped (enc:=enc) (C:=Tryz.checked) (os:=os) (X:=fun w _=>laidMetH Tryz.prog laidL w) false (World.laidAll Tryz.prog os laidL) #[.agg #[.string ⟨#[]⟩, .string ⟨#[]⟩, .string ⟨#[]⟩, .string ⟨#[]⟩, .int .i64 0, .int .i64 0], .int .u8 0, .int .u8 0] 8 (World.laidAll_os _ _ _)
   (World.shaped_of_ZipB (by kernel_rfl) (by kernel_rfl)) (by kernel_rfl) (by kernel_rfl) (by kernel_rfl)
   (by rw[MakeChecks.laidMetH_plain _ _ _ (by kernel_rfl)];exact laidMet_laidAll _ (by kernel_rfl) (by kernel_rfl))) ?_
 intro W base args ds gs before hval0 hW hcnd hwt hL _;rw[MakeChecks.laidMetH_plain _ _ _ (by kernel_rfl)]at hL
 have hval: ∀(j:Nat) t v,Tryz.f5.params[j]?=some t→args[j]?=some v→Value.okWide Tryz.prog W .any base t v:=hval0;have hW':=hW;obtain⟨p,q,hA0,hV,rfl,hfz,hnd⟩:=hW;have hA:DataW.TrodAll enc Tryz.prog W 0 (fun _=>true) true Tryz.f5.params.toList args.toList ds p:=hA0
 have hlt: ∀x∈p++q,x.block<W.heap.size:=fun x hx=>hW'.lt x hx
 rw[Tryz.params5]at hA hval;obtain⟨v0,v1,v2,d0,d1,d2,p0,p1,p2,rfl,rfl,rfl,h0,h1,h2⟩:=trodAll_three hA;obtain⟨rfl,rfl⟩:=trodVars_none hV;have hall:=List.all_eq_true.1 hwt;have rb:=reachBytes_lt;have hv0:=hval 0 36 v0 rfl rfl;unfold Value.okWide at hv0;rw[Tryz.underlying36]at hv0;simp only at hv0;obtain⟨c0,rfl,s0,-⟩:=hv0;have w0: ∀m∈d0.weights Tryz.prog 36,m≤reachBytes:=fun m hm=>of_decide_eq_true (hall m (DataW.weights_mem_each (j:=0) rfl rfl m hm))
 obtain⟨n0,t0⟩:=id h0;obtain⟨pv0,r0,o0,y0⟩:=trod_pv 9 n0 _ c0.toList d0 p0 okFd t0 w0;obtain⟨name,m,o,ba,need,count,ea⟩:=typFd y0;have q0:PR (rdW W) (Fdg name m o ba need count) (.agg c0):=by
  rw[←ea];have:=PR.agg (rd:=rdW W) pv0 c0.toList o0 r0.1 r0.2;simpa using this
 have hv1:=hval 1 5 v1 rfl rfl;obtain⟨z1,rfl⟩:=okWide_int uU8 hv1;have k1:=trod_int1 uU8 h1;obtain⟨x1,rfl,hx1⟩:=wf_u8 k1;have hv2:=hval 2 5 v2 rfl rfl;obtain⟨z2,rfl⟩:=okWide_int uU8 hv2;have k2:=trod_int1 uU8 h2;obtain⟨x2,rfl,hx2⟩:=wf_u8 k2;obtain⟨g,hg,hc⟩:=chides name m o ba need count hx1 hx2;have hg3:g=5:=by
  have a1:=hg #[] W;have a2:=Tryz.call5 #[] W;rw[a1]at a2;injection a2 with a2 _
  injection a2
 subst hg3;refine(hc W (rdW W) [.agg c0, .int .u8 x1, .int .u8 x2] (tabs_read hL) (fun _ _ _ h=>h) (.cons q0 (.cons (.i .u8 x1) (.cons (.i .u8 x2) .nil)))).mono ?_
 rintro e W' ⟨v,rfl,hb,hpr⟩;cases hpr;refine⟨_,rfl,postBelow (pa:=p0++(p1++p2)) (pv:=[]) hW' (fun _ _ _=>trodAll_mk1 (shut_bool uBool true)) (fun sp hsp=>trodAll_mk3 (WideElems.Trod_stays laidK (by kernel_rfl) (of_decide_eq_true (by kernel_rfl)) h0 (fun x hx=>hb.same (hlt x (by simp[hx]))) (fun x hx=>hsp x (by simp[hx]))) (WideElems.Trod_stays laidK (by kernel_rfl) (of_decide_eq_true (by kernel_rfl)) h1 (fun x hx=>hb.same (hlt x (by simp[hx]))) (fun x hx=>hsp x (by simp[hx]))) (WideElems.Trod_stays laidK (by kernel_rfl) (of_decide_eq_true (by kernel_rfl)) h2 (fun x hx=>hb.same (hlt x (by simp[hx]))) (fun x hx=>hsp x (by simp[hx])))) (fun _ _=>rfl) (by simp) hb (ok_one (by kernel_rfl) rfl (okWide_bool_mk uBool true))⟩
end Go.Proofs.YtmobkhegihemeaaGreatDoor
