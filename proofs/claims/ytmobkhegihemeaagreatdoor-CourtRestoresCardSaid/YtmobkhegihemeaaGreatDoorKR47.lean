/-
  Part of the proof, part KR47. Own work.
-/
import Derived.Test.YtmobkhegihemeaaGreatDoorKR46
set_option linter.all false
namespace Go.Proofs.YtmobkhegihemeaaGreatDoor
open Go Go.Dom Go.Num
set_option maxRecDepth 100000
set_option maxHeartbeats 16000000
theorem Od:aB Tryz.prog 70 [E (-1)] (.agg [.b true, .s [1]]):=by
 have hm:=oX true [1];refine eW Tryz.call70 Tryz.func70 ?_;repeat' first|simp only[go_sem,seval]|refine cP lH ?_|refine cP hm ?_|refine sB ?_|(first|apply pX|apply bX)<;>intro hc|refine⟨oD,?_⟩|exact oD|fail
 all_goals rfl
abbrev Ry (i:Nat) (d ch:Bytes) (rs:List Int):PV:= .agg [E i, .s d, .s ch, .sl (rs.map Zp), .sl [], .sl []]
theorem Mq (l:List Int):(l.map gJ).map cu=l.map Zp:=by rw[List.map_map];rfl
theorem Q8 (a b:Int):dY false (.i .i64 a) (.i .i64 b)=some (decide (a=b)):=Kz a b
theorem Fa:gE [23] [11]=0:=by decide+kernel
theorem ES (n:Nat) (h1:n<23) (h2:Nat.gcd n 23=1) (h3:n^11%23=1):GP [23] [11] n:=⟨h1,h2, .inr h3⟩
theorem Ep {ch1 ch3:Bytes} {rs1 rs3:List Int} (l1:rs1.length<1000) (l3:rs3.length<1000) (v1:u7 [11] [2] (jP rp 1) (bG rp 1 [16] [18]) ch1 (rs1.map gJ) [] []=0) (v3:u7 [11] [2] (jP rp 3) (bG rp 3 [16] [1]) ch3 (rs3.map gJ) [] []=0):
  aB Tryz.prog 23 [rp.pv,G1 [16] [9], .sl [Ry 1 [18] ch1 rs1,Ry 3 [1] ch3 rs3]] (.tup [.s [13],E 0]):=by
 have k:=gR qg;have c0:=gI rp (by decide) (by decide) (by decide) (by decide)
 rw[qg]at c0;have c1:=tF rp (by decide) (by decide) (by decide) (by decide) k (i:=1) (by decide) (by decide) (A:=[16]) (B:=[9]) (d:=[18]) (by decide) (by decide+kernel) (by decide+kernel) (by decide+kernel) (ch:=ch1) (rs:=rs1.map gJ) (gs:=[]) (ls':=[]) (by simp;omega) (by simp) (by simp) (fun l h=>by cases h)
 have c3:=tF rp (by decide) (by decide) (by decide) (by decide) k (i:=3) (by decide) (by decide) (A:=[16]) (B:=[9]) (d:=[1]) (by decide) (by decide+kernel) (by decide+kernel) (by decide+kernel) (ch:=ch3) (rs:=rs3.map gJ) (gs:=[]) (ls':=[]) (by simp;omega) (by simp) (by simp) (fun l h=>by cases h)
 rw[show rp.o=[11]from rfl]at c1 c3
 rw[v1]at c1;rw[v3]at c3;simp only[Mq,List.map_nil]at c1 c3;have a1:=yG [23] [11] [4] [12] (pts:=[1,3]) (by simp) (by simp) (by decide)
 have a2:=tE (m:=[23]) (o:=[11]) (by decide) (by decide) Fa (by decide) (by decide+kernel) [4] [12] (pts:=[1,3]) (fF:=[18,1]) (by simp) rfl (by decide) (by decide) (by simp) (fun x hx=>by
  simp only[List.mem_cons,List.not_mem_nil,or_false]at hx;rcases hx with rfl|rfl
  ·exact ES 18 (by decide) (by decide) (by decide)
  ·exact ES 1 (by decide) (by decide) (by decide)) (x:=0) (by decide)
 rw[show yo (num [23]) (num [11]) [1,3] [18,1] 0=6 from Qt]at a2
 have p1:=oU (m:=[23]) (o:=[11]) (by decide) (by decide) Fa (xs:=[9,6]) (es:=[(false,[1]),(true,[1])]) (fun x hx=>by
  simp only[List.mem_cons,List.not_mem_nil,or_false]at hx;rcases hx with rfl|rfl
  ·exact ES 9 (by decide) (by decide) (by decide)
  ·exact ES 6 (by decide) (by decide) (by decide)) (fun e he=>by
  simp only[List.mem_cons,List.not_mem_nil,or_false]at he;rcases he with rfl|rfl<;>rfl) rfl (by simp)
 have hz:uH (num [23]) ([9,6].zip [(false,[1]),(true,[1])])=13:=by
  show uH 23 [(9,(false,[1])),(6,(true,[1]))]=13;rw[mB,o9];show bJ 23 9 false 1*bJ 23 6 true 1%23=13;have:cL 6 23=4:=eY (by decide) (by decide)
  simp only[bJ,this];decide
 rw[hz]at p1;have z1:([9,6]:List Nat).map bO=[.s [9], .s [6]]:=by kernel_rfl
 have z2:([18,1]:List Nat).map bO=[.s [18], .s [1]]:=by kernel_rfl
 have z3:([1,3]:List Nat).map bO=[.s [1], .s [3]]:=by kernel_rfl
 have z4:([1,3]:List Nat).map mV=[E 1,E 3]:=rfl;have z5:([(false,[1]),(true,[1])]:List (Bool×Bytes)).map cu=[.agg [.b false, .s [1]], .agg [.b true, .s [1]]]:=rfl;have z6:N 6= .s [6]:=by kernel_rfl
 have z7:N 13= .s [13]:=by kernel_rfl
 have o1:aB Tryz.prog 70 [E 1] (.agg [.b false, .s [1]]):=Hr;simp only[vU,z3,z4]at a1 a2;rw[z2,z6]at a2;rw[z1,z5,z7]at p1;have hK:rp.pv= .agg [.s [99], .s [23], .s [11], .s [4], .s [12],E 2, .sl [.s [8], .s [13], .s [1]]]:=rfl;rw[hK]at c0 c1 c3⊢;clear k v1 v3 hz;refine eW Tryz.call23 Tryz.func23 ?_;repeat' first|simp only[go_sem,seval,List.getD_cons_zero,List.getD_cons_succ,Fv,ju,nG,Q8,Option.some.injEq,Bool.false_eq_true,Option.isSome_some]|refine cP c0 ?_|refine cP c1 ?_|refine cP c3 ?_|(refine gD [1081] a1 rfl (by simp[aH,ai]) (by simp[aI,view,ai,AV.one,PV.one,chunk]) ?_)|(refine gD [1086] a2 rfl (by simp[aH,ai]) (by simp[aI,view,ai,AV.one,PV.one,chunk]) ?_)|refine cP o1 ?_|refine cP Od ?_|refine cP p1 ?_|(refine ae ?_)|refine sB ?_|(first|apply pX|apply bX)<;>intro hc|refine⟨oD,?_⟩|exact oD|fail
theorem kp (n:Nat) (h:n<18446744073709551616):aB Tryz.prog 15 [.i .u64 n] (N n):=by
 have h1:=Ns n h;refine eW Tryz.call15 Tryz.func15 ?_;repeat' first|simp only[go_sem,seval]|refine cP h1 ?_|refine sB ?_|(first|apply pX|apply bX)<;>intro hc|refine⟨oD,?_⟩|exact oD|fail
theorem KC:aB Tryz.prog 24 [.sl [.i .u64 4, .i .u64 2]] (.sl [.s [4], .s [2]]):=by
 have a:aB Tryz.prog 15 [.i .u64 4] (.s [4]):=kp 4 (by decide)
 have b:aB Tryz.prog 15 [.i .u64 2] (.s [2]):=kp 2 (by decide)
 refine eW Tryz.call24 Tryz.func24 ?_;repeat' first|simp only[go_sem,seval,List.getD_cons_zero,List.getD_cons_succ]|refine cP a ?_|refine cP b ?_|(refine ae ?_)|refine sB ?_|(first|apply pX|apply bX)<;>intro hc|refine⟨oD,?_⟩|exact oD|fail
 all_goals rfl
theorem KD {a b c:Nat} (ha:a<18446744073709551616) (hb:b<18446744073709551616) (hc:c<18446744073709551616):aB Tryz.prog 24 [.sl [.i .u64 a, .i .u64 b, .i .u64 c]] (.sl [N a,N b,N c]):=by
 have a:=kp a ha;have b:=kp b hb;have c:=kp c hc;refine eW Tryz.call24 Tryz.func24 ?_;repeat' first|simp only[go_sem,seval,List.getD_cons_zero,List.getD_cons_succ]|refine cP a ?_|refine cP b ?_|refine cP c ?_|(refine ae ?_)|refine sB ?_|(first|apply pX|apply bX)<;>intro hc|refine⟨oD,?_⟩|exact oD|fail
 all_goals rfl
theorem LX (a b:Bytes):aB Tryz.prog 57 [.sl [.s a, .s b]] (.sl [.s a, .s b]):=by
 refine eW Tryz.call57 Tryz.func57 ?_;repeat' first|simp only[go_sem,seval]|refine sB ?_|(first|apply pX|apply bX)<;>intro hc|refine⟨oD,?_⟩|exact oD|fail
 all_goals rfl
theorem PS (a b:Bytes):aB Tryz.prog 19 [.sl [.s a, .s b]] (T [a,b] [] 0):=by
 have h:=LX a b;refine eW Tryz.call19 Tryz.func19 ?_;repeat' first|simp only[go_sem,seval]|refine cP h ?_|refine sB ?_|(first|apply pX|apply bX)<;>intro hc|refine⟨oD,?_⟩|exact oD|fail
 all_goals rfl
theorem uQ (s:Bytes):aB Tryz.prog 13 [.s s] (T [] s 0):=by
 refine eW Tryz.call13 Tryz.func13 ?_;repeat' first|simp only[go_sem,seval]|refine sB ?_|(first|apply pX|apply bX)<;>intro hc|refine⟨oD,?_⟩|exact oD|fail
 all_goals rfl
theorem KK (a b c:Bytes):aB Tryz.prog 25 [.sl [.s a, .s b, .s c], .sl [.s a, .s b, .s c]] (.b true):=by
 refine eW Tryz.call25 Tryz.func25 ?_;repeat' first|simp only[go_sem,seval,List.getD_cons_zero,List.getD_cons_succ,beq_self_eq_true,Bool.not_true]|(refine ae ?_)|refine sB ?_|(first|apply pX|apply bX)<;>intro hc|refine⟨oD,?_⟩|exact oD|fail
 all_goals rfl
theorem Gj {c sl ctx:Bytes} {s:bQ} {w:List Int} {vs:List Bytes} {sd:Bytes} {a:Int} {ch:Bytes} {rs:List Int} {j:Nat} (h:nP c sl ctx s w vs sd a= .ok (ch,rs,j)):rs.length=s.vars.length:=by
 obtain⟨i',ms,z,-,-,-,rfl⟩:=ph (qM h);exact qO ..
theorem yv:aB Tryz.prog 8 [] (.b true):=by
 obtain⟨⟨ch1,rs1,j1⟩,p1⟩:=KE Rc;obtain⟨⟨ch3,rs3,j3⟩,p3⟩:=KE Re;have k:=gR qg;have g16:GP rp.m rp.o (num [16]):=ES 16 (by decide) (by decide) (by decide)
 have s1:=ni rp (by decide) (by decide) (by decide) (by decide) qg (i:=1) (by decide) (by decide) (x:=[7]) (A:=[16]) (B:=[9]) (vs:=[]) (sd:=[97]) (a:=0) (by simp) (by simp) (by decide) (by decide) (by decide+kernel) (by decide+kernel) (by decide) (by decide+kernel) (d:=18) (by decide+kernel) p1 (fun e h=>by cases h)
 have s3:=ni rp (by decide) (by decide) (by decide) (by decide) qg (i:=3) (by decide) (by decide) (x:=[]) (A:=[16]) (B:=[9]) (vs:=[]) (sd:=[98]) (a:=0) (by simp) (by simp) (by decide) (by decide) (by decide+kernel) (by decide+kernel) (by decide) (by decide+kernel) (d:=1) (by decide+kernel) p3 (fun e h=>by cases h)
 have v1:=yH k (by decide) g16 (by decide+kernel) (by decide+kernel) p1
 have v3:=yH k (by decide) g16 (by decide+kernel) (by decide+kernel) p3
 have l1:rs1.length<1000:=by rw[Gj p1];decide
 have l3:rs3.length<1000:=by rw[Gj p3];decide
 have op:=Ep l1 l3 v1 v3;have fo:=wG (name:=[99]) (m:=[23]) (o:=[11]) (by decide) (by decide) (by decide) [4] 2 (count:=3) (by decide) (vs:=[[4],[2]]) (sd:=[]) (a:=0) (by simp) (by simp)
 rw[OI]at fo;rw[show rO [99] [23] [11] [4] 2 [[4],[2]] [] (.ok (12,[7,9,0],2))= .tup [.agg [.s [99], .s [23], .s [11], .s [4], .s [12],E 2, .sl [.s [8], .s [13], .s [1]]], .sl [.s [7], .s [9], .s []],T [[4],[2]] [] 2,E 0] by kernel_rfl]at fo
 simp only[NA]at s1 s3;have hK:rp.pv= .agg [.s [99], .s [23], .s [11], .s [4], .s [12],E 2, .sl [.s [8], .s [13], .s [1]]]:=rfl;rw[hK]at s1 s3 op;rw[show N 18= .s [18]from rfl]at s1
 rw[show N 1= .s [1]from rfl]at s3
 have n: ∀(x:Nat) (b:Bytes),x<18446744073709551616→aK x=b→aB Tryz.prog 15 [.i .u64 x] (.s b):=fun x b hx hb=>by rw[←hb];exact kp x hx
 have n23:=n 23 [23] (by decide) rfl
 have n11:=n 11 [11] (by decide) rfl
 have n4:=n 4 [4] (by decide) rfl
 have n12:=n 12 [12] (by decide) rfl
 have n16:=n 16 [16] (by decide) rfl
 have n9:=n 9 [9] (by decide) rfl
 have n7:=n 7 [7] (by decide) rfl
 have n0:=n 0 [] (by decide) rfl
 have n18:=n 18 [18] (by decide) rfl
 have n1:=n 1 [1] (by decide) rfl
 have n13:=n 13 [13] (by decide) rfl
 have m1:aB Tryz.prog 24 [.sl [.i .u64 7, .i .u64 9, .i .u64 0]] (.sl [.s [7], .s [9], .s []]):=KD (a:=7) (b:=9) (c:=0) (by decide) (by decide) (by decide)
 have m2:aB Tryz.prog 24 [.sl [.i .u64 8, .i .u64 13, .i .u64 1]] (.sl [.s [8], .s [13], .s [1]]):=KD (a:=8) (b:=13) (c:=1) (by decide) (by decide) (by decide)
 have vv:=PS [4] [2];have sa:=uQ [97];have sb:=uQ [98];have q1:=KK [7] [9] [];have q2:=KK [8] [13] [1];simp only[show((1:Nat):Int)=1 from rfl,show((3:Nat):Int)=3 from rfl,show((23:Nat):Int)=23 from rfl,show((11:Nat):Int)=11 from rfl,show((4:Nat):Int)=4 from rfl,show((12:Nat):Int)=12 from rfl,show((16:Nat):Int)=16 from rfl,show((9:Nat):Int)=9 from rfl,show((7:Nat):Int)=7 from rfl,show((0:Nat):Int)=0 from rfl,show((18:Nat):Int)=18 from rfl,show((13:Nat):Int)=13 from rfl]at s1 s3 op n23 n11 n4 n12 n16 n9 n7 n0 n18 n1 n13
 clear p1 p3 k v1 v3 hK n;refine eW Tryz.call8 Tryz.func8 ?_;repeat' first|simp only[go_sem,seval,beq_self_eq_true,bne_self_eq_false,Bool.not_true]|refine cP n23 ?_|refine cP n11 ?_|refine cP n4 ?_|refine cP KC ?_|refine cP vv ?_|refine cP fo ?_|refine cP n12 ?_|refine cP m1 ?_|refine cP q1 ?_|refine cP m2 ?_|refine cP q2 ?_|refine cP n16 ?_|refine cP n9 ?_|refine cP n7 ?_|refine cP sa ?_|refine cP s1 ?_|refine cP n0 ?_|refine cP sb ?_|refine cP s3 ?_|refine cP op ?_|refine cP n18 ?_|refine cP n1 ?_|refine cP n13 ?_|refine sB ?_|(first|apply pX|apply bX)<;>intro hc|refine⟨oD,?_⟩|exact oD|fail
 all_goals rfl
end Go.Proofs.YtmobkhegihemeaaGreatDoor
namespace Go.Dom
open Go.Num

end Go.Dom
namespace Go.Proofs.YtmobkhegihemeaaGreatDoor
open Go Go.Dom Go.Num
set_option maxRecDepth 100000
set_option maxHeartbeats 16000000
def jq (name m o base:Bytes) (count:Int):Bool:=decide (name.length≤60∧m.length≤8∧o.length≤8∧base.length≤12∧(count≤8∨count>255))
abbrev P4 (name m o base:Bytes) (need count:Int):PV:= .agg [.s name, .s m, .s o, .s base,E need,E count]
theorem ED (name m o base:Bytes) (need count:Int):aB Tryz.prog 11 [P4 name m o base need count] (.b (jq name m o base count)):=by
 by_cases h1:name.length≤60
 case neg=>
  rw[show jq name m o base count=false from decide_eq_false fun h=>h1 h.1]
  refine eW Tryz.call11 Tryz.func11 ?_;repeat' first|simp only[go_sem,seval]|refine sB ?_|(first|apply pX|apply bX)<;>intro hc|refine⟨oD,?_⟩|exact oD|fail
 by_cases h2:m.length≤8
 case neg=>
  rw[show jq name m o base count=false from decide_eq_false fun h=>h2 h.2.1]
  refine eW Tryz.call11 Tryz.func11 ?_;repeat' first|simp only[go_sem,seval]|refine sB ?_|(first|apply pX|apply bX)<;>intro hc|refine⟨oD,?_⟩|exact oD|fail
 by_cases h3:o.length≤8
 case neg=>
  rw[show jq name m o base count=false from decide_eq_false fun h=>h3 h.2.2.1]
  refine eW Tryz.call11 Tryz.func11 ?_;repeat' first|simp only[go_sem,seval]|refine sB ?_|(first|apply pX|apply bX)<;>intro hc|refine⟨oD,?_⟩|exact oD|fail
 by_cases h4:base.length≤12
 case neg=>
  rw[show jq name m o base count=false from decide_eq_false fun h=>h4 h.2.2.2.1]
  refine eW Tryz.call11 Tryz.func11 ?_;repeat' first|simp only[go_sem,seval]|refine sB ?_|(first|apply pX|apply bX)<;>intro hc|refine⟨oD,?_⟩|exact oD|fail
 by_cases h5:count≤8
 ·rw[show jq name m o base count=true from decide_eq_true ⟨h1,h2,h3,h4, .inl h5⟩]
  refine eW Tryz.call11 Tryz.func11 ?_;repeat' first|simp only[go_sem,seval]|refine sB ?_|(first|apply pX|apply bX)<;>intro hc|refine⟨oD,?_⟩|exact oD|fail
 by_cases h6:count>255
 ·rw[show jq name m o base count=true from decide_eq_true ⟨h1,h2,h3,h4, .inr h6⟩]
  refine eW Tryz.call11 Tryz.func11 ?_;repeat' first|simp only[go_sem,seval]|refine sB ?_|(first|apply pX|apply bX)<;>intro hc|refine⟨oD,?_⟩|exact oD|fail
  all_goals rw[decide_eq_true h6]
 ·rw[show jq name m o base count=false from decide_eq_false fun h=>h.2.2.2.2.elim h5 h6]
  refine eW Tryz.call11 Tryz.func11 ?_;repeat' first|simp only[go_sem,seval]|refine sB ?_|(first|apply pX|apply bX)<;>intro hc|refine⟨oD,?_⟩|exact oD|fail
  all_goals rw[decide_eq_false h6]
structure Rx (m o base:Bytes):Prop where
 lm:m.length≤8
 lo:o.length≤8
 vo:aa o=true
 q4:4≤num o
 q60:num o≤60
 pe:RJ m o=0
 pg:oo m o base=true
 b1:base≠[1]
theorem Rx.all {m o base:Bytes} (r:Rx m o base):gE m o=0∧o≠[]∧GP m o (num base)∧cT (num o)=true∧aa m=true∧aa base=true:=by
 obtain⟨lm,lo,vo,q4,q60,pe,pg,b1⟩:=r;unfold RJ at pe;have ho:o≠[]:=fun e=>by subst e;simp[num]at q4
 split at pe
 ·cases pe
 ·rename_i h1
  split at pe
  ·cases pe
  ·split at pe
   ·cases pe
   ·rename_i h3
    split at pe
    ·cases pe
    ·split at pe
     ·cases pe
     ·rename_i h5
      split at pe
      ·rename_i h6;have hv:aa m=true∧aa o=true:=by simpa using h1
       have h3:cT (num m)=true:=by simpa using h3
       have h5:cT (num o)=true:=by simpa using h5
       have hm:=(jt h3).1;have hob:(o==([]:Bytes))=false:=by simpa using ho
       have hE:gE m o=0:=by
        unfold gE;rw[hv.1,hv.2,hob];simp only[Bool.and_self,Bool.not_true,Bool.false_eq_true,if_false];rw[if_neg (by omega)]
       have hh:fW m o base=true:=by unfold fW;rw[hob];exact pg
       obtain⟨vb,gp⟩:=(a7 hE).1 hh;exact⟨hE,ho,gp,h5,hv.1,vb⟩
      ·cases pe
def ay (l:List Bool):List AV:=l.map fun x=> .v (.b x)
theorem fk (l:List Bool):(ay l).length=l.length:=by simp[ay]
end Go.Proofs.YtmobkhegihemeaaGreatDoor
namespace Go.Proofs.YtmobkhegihemeaaGreatDoor
open Go Go.Dom Go.ChangeShapes Go.WideShapes Go.ChangeAt Go.RowKit
set_option maxRecDepth 100000
theorem SL:Tryz.prog.underlying 3=some (.int .i64):=by kernel_rfl
theorem RX:Tryz.prog.underlying 5=some (.int .u8):=by kernel_rfl
theorem Sa:Tryz.prog.cellsOf 3=1:=by kernel_rfl
theorem Q9:MA Tryz.prog 9 36=true:=by kernel_rfl
theorem PL {ps:List PV} (h:rG Tryz.prog 9 36 ps): ∃(name m o base:Bytes) (need count:Int), .agg ps=P4 name m o base need count:=by
 rw[rG,Tryz.underlying36]at h;simp only[DA,cN,cS,R9,Sa]at h;obtain⟨h1,h2,h3,h4,h5,h6⟩:=h;obtain⟨a,h1⟩:=PN h1;obtain⟨m,o,h2⟩:=PM h2;obtain⟨b,h3⟩:=J3 h3;simp only[rG,SL]at h4 h5;obtain⟨n,h4,-⟩:=h4;obtain⟨c,h5,-⟩:=h5;refine⟨a,m,o,b,n,c,?_⟩;rw[tk h1,SI h2,tk h3,tk h4,tk h5,h6]
theorem Dd {H:Type} {enc:TypeId×Value→H} {P:Program} {w:World} {sp:Nat→Bool} {t:TypeId} {q:IntKind} {n:Int} {d:DataW H} {ps:List MemPlace} (hu:P.underlying t=some (.int q)) (h:DataW.Trod enc P w 0 sp true t (.int q n) d ps):(Lit.int q n).wf=true:=by
 obtain⟨f,h⟩:=h
 cases f with
 |zero=>simp[DataW.trod]at h
 |succ f=>
  obtain⟨m,e,hm⟩:=trod_int h hu;have e:[Value.int q n]=[Value.int q m]:=e;injection e with e _
  injection e with _ e
  rw[e];exact hm
theorem wf_u8 {z:Int} (h:(Lit.int .u8 z).wf=true): ∃x:Nat,z=x∧x<256:=by
 have h1:(decide ((0:Int)≤z)&&decide (z≤255))=true:=h;simp only[Bool.and_eq_true,decide_eq_true_eq]at h1;exact⟨z.toNat,by omega,by omega⟩
end Go.Proofs.YtmobkhegihemeaaGreatDoor
namespace Go.Proofs.YtmobkhegihemeaaGreatDoor
open Go Go.Dom Go.Num
set_option maxRecDepth 100000
set_option maxHeartbeats 16000000
theorem BU (c:CK) (ln:c.name.length≤60) (lm:c.m.length≤8) (lo:c.o.length≤8) (ls:c.sh.length≤8) (hc:ec c=0) (A B:Bytes) {l:List PV} (hl:(l.length:Int)<c.need):aB Tryz.prog 23 [c.pv,G1 A B, .sl l] (.tup [.s [],E 6]):=by
 have v1:=gI c ln lm lo ls;rw[hc]at v1;have k:=gR hc;have:=k.n2;obtain⟨n,hn⟩: ∃n,n=l.length:=⟨_,rfl⟩;have hl':l.length=n:=hn.symm;rw[hl']at hl;clear k hc;obtain⟨name,m,o,g,yy,need,sh⟩:=c;simp only[CK.pv]at*;refine eW Tryz.call23 Tryz.func23 ?_;repeat' first|simp only[go_sem,seval,hl']|refine cP v1 ?_|refine sB ?_|(first|apply pX|apply bX)<;>intro hc|refine⟨oD,?_⟩|exact oD|fail
 all_goals rfl
theorem wQ (a b:Nat):dY false (mV a) (mV b)=some (decide (a=b)):=by
 show dY false (.i .i64 (a:Int)) (.i .i64 (b:Int))= _;rw[Kz];exact congrArg some (decide_eq_decide.2 Int.ofNat_inj)
def yd:Sh:=(0,0,[],[])
theorem sN {l:List Nat} (hd:l.Nodup) {i:Nat} (hlt:i<l.length):l.getD i 0∉l.take i:=fun hm=>by
 obtain⟨j,hj,he⟩:=List.mem_take_iff_getElem.1 hm;exact(List.pairwise_iff_getElem.1 hd) j i (by omega) hlt (by omega) (he.trans (by simp[List.getD_eq_getElem?_getD,hlt]))
theorem CA:cC bO 1:=⟨fun _=>rfl,fun x y hy=>by cases List.mem_singleton.1 hy;rfl,fun _ _=>rfl,fun h=>absurd rfl h⟩
theorem Er (c:CK) (ln:c.name.length≤60) (lm:c.m.length≤8) (lo:c.o.length≤8) (ls:c.sh.length≤8) (hc:ec c=0) {A B:Bytes} (vA:aa A=true) (vB:aa B=true) (hA:fX c.m c.o A=true) (hB:fX c.m c.o B=true) {L:List Sh} (hL:(L.length:Int)=c.need) (hg: ∀s∈L,NP c A s) (hd:(L.map (·.1)).Nodup) {v r:Nat} (hv:yo (num c.m) (num c.o) (L.map (·.1)) (L.map (·.2.1)) 0=v) (gv:GP c.m c.o v) (hr:uH (num c.m) [(num B,(false,[1])),(v,(true,[1]))]=r):
  aB Tryz.prog 23 [c.pv,G1 A B, .sl (L.map lz)] (.tup [N r,E 0]):=by
 have k:=gR hc;have v1:=gI c ln lm lo ls;rw[hc]at v1;have gB:GP c.m c.o (num B):=by
  unfold fX at hB;rw[Bool.and_eq_true]at hB;exact((a7 k.e).1 hB.2).2
 have n1:=k.n1;have n2:=k.n2;have nq:=k.nq;have hqW:=cE lo;have hW:=gF;have hb0: ∀a∈L.map (·.1),1≤a∧a≤c.sh.length:=fun a ha=>by
  obtain⟨s,hs,rfl⟩:=List.mem_map.1 ha;exact⟨(hg s hs).i1,(hg s hs).i2⟩
 have he0: ∀x∈L.map (·.2.1),GP c.m c.o x:=fun x hx=>by
  obtain⟨s,hs,rfl⟩:=List.mem_map.1 hx;exact(hg s hs).g
 have hp: ∀i,i<L.length→(L.map (·.1)).getD i 0=(L.getD i yd).1∧(L.map (·.2.1)).getD i 0=(L.getD i yd).2.1:=fun i hi=>by simp[List.getD_eq_getElem?_getD,hi]
 have hcs:=fun i (hi:i<L.length)=>Ag c ln lm lo ls k hA hB vA vB (hg _ (au yd hi))
 have lp:(L.map (·.1)).length=L.length:=List.length_map ..;have lel:(L.map (·.2.1)).length=L.length:=List.length_map ..;obtain⟨pts,hpts⟩: ∃p,p=L.map (·.1):=⟨_,rfl⟩;obtain⟨fF,hels⟩: ∃p,p=L.map (·.2.1):=⟨_,rfl⟩;rw[←hpts]at hb0 hp lp hd hv;rw[←hels]at he0 hp lel hv;have h0:pts≠[]:=List.length_pos_iff.1 (by omega)
 have a1:=yG c.m c.o c.g c.y h0 (by omega) (fun a ha=>by have:=hb0 a ha;omega)
 have a2:=tE lm lo k.e k.o0 k.p c.g c.y h0 (by omega) hd (fun a ha=>by have:=hb0 a ha;omega) (by omega) he0 (x:=0) (by omega)
 rw[hv]at a2;have p1:=oU lm lo k.e (xs:=[num B,v]) (es:=[(false,[1]),(true,[1])]) (fun x hx=>by
  simp only[List.mem_cons,List.not_mem_nil,or_false]at hx;rcases hx with rfl|rfl
  ·exact gB
  ·exact gv) (fun e he=>by
  simp only[List.mem_cons,List.not_mem_nil,or_false]at he;rcases he with rfl|rfl<;>rfl) rfl (by simp)
 rw[show[num B,v].zip [(false,([1]:Bytes)),(true,[1])]=[(num B,(false,[1])),(v,(true,[1]))]from rfl,hr]at p1
 have z1:([num B,v]:List Nat).map bO=[.s B,N v]:=by
  show[N (num B),N v]= _;rw[dy vB]
 have z5:([(false,[1]),(true,[1])]:List (Bool×Bytes)).map cu=[.agg [.b false, .s [1]], .agg [.b true, .s [1]]]:=rfl;rw[z1,z5]at p1;have o1:aB Tryz.prog 70 [E 1] (.agg [.b false, .s [1]]):=Hr;obtain⟨n,hn⟩: ∃n,n=L.length:=⟨_,rfl⟩;rw[←hn]at hL hp hcs lp lel;have l1:(L.map lz).length=n:=by rw[List.length_map,hn]
 have hS:=fun i (hi:i<n)=>getD_map lz L yd (i:=i) (by omega)
 simp only[vU]at a1 a2;clear k hg hb0 he0 hpts hels hv hr gv gB hA hB hc;obtain⟨name,m,o,g,yy,need,sh⟩:=c;simp only[CK.pv]at*;subst hL;refine eW Tryz.call23 Tryz.func23 ?_;repeat' first|simp only[go_sem,seval,l1]|refine cP v1 ?_|refine sB ?_|(first|apply pX|apply bX)<;>intro hc|refine⟨oD,?_⟩|exact oD|fail
 refine aj (α:=Nat) (fun j=>n-j) (fun j=>⟨[(2, .v (.sl (L.map lz))),(3, .p 1000 0 0),(4, .p 1001 0 0),(33, .v (.sl (L.map lz))),(34,E' n),(35,E' j)],[(1000,⟨0,[.v (.s name), .v (.s m), .v (.s o), .v (.s g), .v (.s yy), .v (E n), .v (.sl (sh.map .s))],false,none⟩),(1001,⟨0,[.v (.s A), .v (.s B)],false,none⟩)],1022⟩) (fun j=>j≤n) 0 (fun _=>Nat.le_of_ble_eq_true rfl) (Nat.zero_le _) ?_ ?_
 ·exact lE
 ·intro j hj R hR
  by_cases hlt:j<n
  ·have hgo:=hR (j+1) (by omega) (by omega)
   have e1:=hS j hlt;have c1:=hcs j hlt;clear hR hcs hS hp;generalize L.getD j yd=s at*;obtain⟨i,d,ch,rs⟩:=s;simp only[lz]at e1 c1;repeat' first|simp only[go_sem,seval,l1,e1]|refine cP c1 ?_|refine sB ?_|(first|apply pX|apply bX)<;>intro hc|refine⟨oD,?_⟩|exact oD|fail
   refine hgo _ ?_;exact lE
  ·obtain rfl:j=n:=by omega
   clear hR hcs;repeat' first|simp only[go_sem,seval,l1]|refine sB ?_|(first|apply pX|apply bX)<;>intro hc|refine⟨oD,?_⟩|exact oD|fail
   refine aj (α:=Nat) (fun i=>j-i) (fun i=>match i with|0=>⟨[(3, .p 1000 0 0),(4, .p 1001 0 0),(12, .mp 1023),(13, .sn),(14, .sn),(48, .v (.sl (L.map lz))),(49,E' j),(50, .v (.i .i64 0))],[(1000,⟨0,[.v (.s name), .v (.s m), .v (.s o), .v (.s g), .v (.s yy), .v (E j), .v (.sl (sh.map .s))],false,none⟩),(1001,⟨0,[.v (.s A), .v (.s B)],false,none⟩),(1023,⟨0,gn mV (pts.take 0),false,none⟩)],1030⟩|i+1=>⟨[(3, .p 1000 0 0),(4, .p 1001 0 0),(12, .mp 1023),(13, .rs 1053 i 0 (i+1) 1),(14, .rs 1058 i 0 (i+1) 1),(48, .v (.sl (L.map lz))),(49,E' j),(50,E' (i+1))],[(1000,⟨0,[.v (.s name), .v (.s m), .v (.s o), .v (.s g), .v (.s yy), .v (E j), .v (.sl (sh.map .s))],false,none⟩),(1001,⟨0,[.v (.s A), .v (.s B)],false,none⟩),(1023,⟨0,gn mV (pts.take (i+1)),false,none⟩),(1053,⟨i,aQ mV (pts.take (i+1)),true,some 3⟩),(1058,⟨i,aQ bO (fF.take (i+1)),true,some 22⟩)],1063⟩) (fun i=>i≤j) 0 (fun i=>by cases i<;>exact Nat.le_of_ble_eq_true rfl) (Nat.zero_le _) ?_ ?_
   ·show AS.Le _ _;rw[List.take_zero,xG];exact lE
   ·intro i hi R hR
    cases i with
    |zero=>
     have hgo:=hR 1 (by omega) (by omega)
     have e1:=hS 0 (by omega)
     obtain⟨p1',p2'⟩:=hp 0 (by omega)
     have hnm:=sN hd (i:=0) (by omega)
     have u1:pts.take 1=[(L.getD 0 yd).1]:=(cv 0 (show 0<pts.length by omega)).trans (by rw[p1',List.take_zero];rfl)
     have u2:fF.take 1=[(L.getD 0 yd).2.1]:=(cv 0 (show 0<fF.length by omega)).trans (by rw[p2',List.take_zero];rfl)
     rw[p1']at hnm;clear hR hS hp;generalize L.getD 0 yd=s at*;obtain⟨x,d,ch,rs⟩:=s;have u3:aQ mV [x]=[.v (E x)]:=rfl;have u4:aQ bO [d]=[.v (N d)]:=rfl;simp only[lz,List.take_zero]at e1 hnm;simp only[u1,u2,u3,u4]at hgo;have m1:=ml wQ x [];have m2:ju false (.b false) (mV x) (gn mV [])= .b false:=rfl;have m3:=kq wQ hnm;simp only[mV,List.nil_append]at m1 m2 m3;repeat' first|simp only[go_sem,seval,l1,e1,m1,m2,m3]|refine sB ?_|(first|apply pX|apply bX)<;>intro hc|refine⟨oD,?_⟩|exact oD|fail
     refine hgo _ ?_
     (refine AS.Le.of (by first|decide|omega) ?_ ?_<;>simp[bL,bK,aD,ai,AV.bd,AV.bd.bdL,u8,af,ah,ak])
     all_goals exact fun c hc=>(uR mV [x] _).mpr trivial c hc
    |succ i=>
     by_cases hlt:i+1<j
     ·have hgo:=hR (i+2) (by omega) (by omega)
      have e1:=hS (i+1) (by omega)
      obtain⟨p1',p2'⟩:=hp (i+1) (by omega)
      have hnm:=sN hd (i:=i+1) (by omega)
      rw[p1']at hnm;have u1:pts.take (i+1+1)=pts.take (i+1)++[(L.getD (i+1) yd).1]:=by rw[cv 0 (show i+1<pts.length by omega),p1']
      have u2:fF.take (i+1+1)=fF.take (i+1)++[(L.getD (i+1) yd).2.1]:=by rw[cv 0 (show i+1<fF.length by omega),p2']
      have q1:=a9 nr (pts.take (i+1));have q2:=a9 CA (fF.take (i+1));rw[List.length_take,Nat.min_eq_left (by omega),Nat.mul_one]at q1 q2
      have q3:=a5 nr (pts.take (i+1));have q4:=a5 CA (fF.take (i+1));rw[List.length_take,Nat.min_eq_left (by omega),Nat.mul_one]at q3 q4
      clear hR hS hp;generalize L.getD (i+1) yd=s at*;obtain⟨x,d,ch,rs⟩:=s;simp only[lz]at e1 hnm;have u3:aQ mV (pts.take (i+1)++[x])=aQ mV (pts.take (i+1))++[.v (E x)]:=bz ..;have u4:aQ bO (fF.take (i+1)++[d])=aQ bO (fF.take (i+1))++[.v (N d)]:=bz ..;simp only[u1,u2,u3,u4]at hgo;have m1:=ml wQ x (pts.take (i+1));have m2:ju false (.b false) (mV x) (gn mV (pts.take (i+1)))= .b false:=by rw[nJ wQ];simp[hnm]
      have m3:=kq wQ hnm;simp only[mV]at m1 m2 m3;repeat' first|simp only[go_sem,seval,l1,e1,m1,m2,m3,q1,q2,q3,q4]|refine sB ?_|(first|apply pX|apply bX)<;>intro hc|refine⟨oD,?_⟩|exact oD|fail
      refine hgo _ ?_
      (refine AS.Le.of (by first|decide|omega) ?_ ?_<;>simp[bL,bK,aD,ai,AV.bd,AV.bd.bdL,u8,af,ah,ak])
      all_goals exact⟨fun c hc=>(uR mV (pts.take (i+1)++[x]) _).mpr trivial c hc,fun c hc=>hc.elim (fun h=>cb h) fun h=>by rw[h];rfl,fun c hc=>hc.elim (fun h=>cb h) fun h=>by rw[h];rfl⟩
     ·obtain rfl:i+1=j:=by omega
      have hT:pts.take (i+1)=pts:=List.take_of_length_le (by omega)
      have hU:fF.take (i+1)=fF:=List.take_of_length_le (by omega)
      have q1:=a9 nr pts;have q2:=a9 CA fF;have q3:=a5 nr pts;have q4:=a5 CA fF;have q5:=bj nr pts;have q6:=bj CA fF;rw[lp,Nat.mul_one]at q1 q3;rw[lel,Nat.mul_one]at q2 q4;rw[lp]at q5;rw[lel]at q6;clear hR hS hp;have q7:=ct nr pts;have q8:=ct CA fF;repeat' first|simp only[go_sem,seval,l1,hT,hU,q1,q2,q3,q4]|(refine gD [1053] a1 rfl (by simp[aH,ai,q1,q3,q7,ia]) (by simp[aI,view,ai,q1,q3,q5,q7,cj]) ?_)|(refine gD [1058] a2 rfl (by simp[aH,ai,q2,q4,q8,ia]) (by simp[aI,view,ai,q2,q4,q6,q8,cj]) ?_)|refine cP o1 ?_|refine cP Od ?_|refine cP p1 ?_|refine sB ?_|(first|apply pX|apply bX)<;>intro hc|refine⟨oD,?_⟩|exact oD|fail
      all_goals rfl
end Go.Proofs.YtmobkhegihemeaaGreatDoor
