/-
  Part of the proof, part 27. Own work.
-/
import Derived.Test.YtmobkhegihemeaaGreatDoorM26
import Derived.Test.YtmobkhegihemeaaGreatDoorRows
import Derived.Test.YtmobkhegihemeaaGreatDoorCards
import Derived.Test.YtmobkhegihemeaaGreatDoorTie
import Derived.ProofKit
import Derived.ChangeSame
import Derived.Lay
import Derived.LaidOnce
import Derived.SevenTiedAt
import Derived.Lib.LaidU8
set_option linter.all false
namespace Go.Proofs.YtmobkhegihemeaaGreatDoor
open Go Go.Dom Go.Num
set_option maxRecDepth 100000
set_option maxHeartbeats 4000000
theorem made_ok (n:Bool) (a:Bytes):EvP Tryz.prog 99 [.b n, .s a] (.agg [.b (n&& !(a==[])), .s a]):=by
 refine eW Tryz.call99 Tryz.func99 ?_;repeat' first|simp only[go_sem,seval]|refine sB ?_|(first|apply pX|apply bX)<;>intro hc|refine⟨oD,?_⟩|exact oD|fail
 all_goals simp_all
theorem iValid_ok (n:Bool) (a:Bytes):EvP Tryz.prog 171 [.agg [.b n, .s a]] (.b (validN a&& !(n&&a==[]))):=by
 have hv:=natValid a;refine eW Tryz.call171 Tryz.func171 ?_;repeat' first|simp only[go_sem,seval]|refine cP hv ?_|refine sB ?_|(first|apply pX|apply bX)<;>intro hc|refine⟨oD,?_⟩|exact oD|fail
 all_goals simp_all
theorem From_ok {a:Bytes} (h:validN a=true):EvP Tryz.prog 47 [.s a] (.agg [.b false, .s a]):=by
 have hv:=natValid a;rw[h]at hv;refine eW Tryz.call47 Tryz.func47 ?_;repeat' first|simp only[go_sem,seval]|refine cP hv ?_|refine cP (made_ok _ _) ?_|refine sB ?_|(first|apply pX|apply bX)<;>intro hc|refine⟨oD,?_⟩|exact oD|fail
 all_goals simp_all
theorem formed_ok (m o:Bytes):EvP Tryz.prog 54 [G m o] (.b (validN m&&validN o)):=by
 have v1:=natValid m;have v2:=natValid o;refine eW Tryz.call54 Tryz.func54 ?_;repeat' first|simp only[go_sem,seval]|refine cP v1 ?_|refine cP v2 ?_|refine sB ?_|(first|apply pX|apply bX)<;>intro hc|refine⟨oD,?_⟩|exact oD|fail
 all_goals simp_all
theorem SubN {a b:Nat} (ha:a<18446744073709551616) (hb:b<18446744073709551616):EvP Tryz.prog 94 [N a,N b] (.tup [if b≤a then N (a-b)else .s [],E (if b≤a then 0 else 2)]):=by
 have:=Sub_ok (bts a) (bts b);simp only[subB,vN ha,vN hb,Bool.and_self,if_true,num_bts]at this
 by_cases h:b≤a
 ·simp only[h,if_true]at this⊢;exact this
 ·simp only[h,if_false]at this⊢;exact this
theorem cofactor_ok {m o:Nat} (hm:m<18446744073709551616) (ho:o<18446744073709551616):EvP Tryz.prog 55 [G (bts m) (bts o)] (.tup [if m=0∨o=0 then .s []else N ((m-1)/o), .b (decide (m≠0)&&decide (o≠0)&&decide ((m-1)%o=0))]):=by
 have hs:=SubN hm (show 1<18446744073709551616 by decide)
 by_cases m0:m=0
 ·subst m0;simp only[show¬1≤0 by omega,if_false]at hs
  refine eW Tryz.call55 Tryz.func55 ?_;simp only[go_sem,seval,one_eq];repeat' first|simp only[go_sem,seval,one_eq]|refine cP hs ?_|refine sB ?_|(first|apply pX|apply bX)<;>intro hc|refine⟨oD,?_⟩|exact oD|fail
  all_goals simp_all
 ·rw[if_pos (by omega),if_pos (by omega)]at hs
  by_cases o0:o=0
  ·subst o0;refine eW Tryz.call55 Tryz.func55 ?_;simp only[go_sem,seval,one_eq];repeat' first|simp only[go_sem,seval,one_eq,nilT]|refine cP hs ?_|refine sB ?_|(first|apply pX|apply bX)<;>intro hc|refine⟨oD,?_⟩|exact oD|fail
   all_goals simp_all
  ·have hd:=DivModN (a:=m-1) (b:=o) (by omega) ho (by omega)
   have e:=nilF o0;have hz:(bts ((m-1)%o)==([]:Bytes))=decide ((m-1)%o=0):=by
    rw[Bool.eq_iff_iff];simp[bts_nil]
   refine eW Tryz.call55 Tryz.func55 ?_;simp only[go_sem,seval,one_eq];repeat' first|simp only[go_sem,seval,one_eq,e,hz]|refine cP hs ?_|refine cP hd ?_|refine sB ?_|(first|apply pX|apply bX)<;>intro hc|refine⟨oD,?_⟩|exact oD|fail
   all_goals simp_all
def pgE (m o:Bytes):Int:=if !(validN m&&validN o)then 3 else if 8<m.length then 5 else if !isMR (num m)then 12 else if 8<o.length then 13 else if !isMR (num o)then 12 else if(num m-1)%num o=0 then 0 else 13
theorem pgCheck_ok (m o:Bytes):EvP Tryz.prog 17 [G m o] (E (pgE m o)):=by
 have hf:=formed_ok m o;have hm:=primeIsOk m;have ho:=primeIsOk o
 by_cases hv:validN m=true∧validN o=true
 case neg=>
  have e:(validN m&&validN o)=false:=by rw[Bool.eq_false_iff];intro g;simp at g;exact hv g
  rw[e]at hf;have e2:pgE m o=3:=by simp[pgE,e]
  rw[e2];refine eW Tryz.call17 Tryz.func17 ?_;repeat' first|simp only[go_sem,seval]|refine cP hf ?_|refine sB ?_|(first|apply pX|apply bX)<;>intro hc|refine⟨oD,?_⟩|exact oD|fail
 obtain⟨v1,v2⟩:=hv;rw[v1,v2]at hf;rw[v1]at hm;rw[v2]at ho
 by_cases l1:m.length≤8
 case neg=>
  have e2:pgE m o=5:=by simp[pgE,v1,v2];intro g;omega
  rw[e2];refine eW Tryz.call17 Tryz.func17 ?_;repeat' first|simp only[go_sem,seval]|refine cP hf ?_|refine sB ?_|(first|apply pX|apply bX)<;>intro hc|refine⟨oD,?_⟩|exact oD|fail
 have em:primeE m=0:=by simp[primeE,v1,l1]
 rw[decide_eq_true l1,em]at hm
 by_cases l2:o.length≤8
 case neg=>
  by_cases p1:isMR (num m)=true
  ·have e2:pgE m o=13:=by simp[pgE,v1,v2,p1,show¬8<m.length by omega,show 8<o.length by omega]
   rw[p1]at hm;rw[e2];refine eW Tryz.call17 Tryz.func17 ?_;repeat' first|simp only[go_sem,seval]|refine cP hf ?_|refine cP hm ?_|refine sB ?_|(first|apply pX|apply bX)<;>intro hc|refine⟨oD,?_⟩|exact oD|fail
  ·have p1:isMR (num m)=false:=by simpa using p1
   have e2:pgE m o=12:=by simp[pgE,v1,v2,p1,l1]
   rw[p1]at hm;rw[e2];refine eW Tryz.call17 Tryz.func17 ?_;repeat' first|simp only[go_sem,seval]|refine cP hf ?_|refine cP hm ?_|refine sB ?_|(first|apply pX|apply bX)<;>intro hc|refine⟨oD,?_⟩|exact oD|fail
 have eo:primeE o=0:=by simp[primeE,v2,l2]
 rw[decide_eq_true l2,eo]at ho;have hc:=cofactor_ok (num8 l1) (num8 l2);rw[bts_of v1,bts_of v2]at hc;have hcm:=hc;clear hc;unfold pgE;rw[v1,v2]
 by_cases p1:isMR (num m)=true
 ·by_cases p2:isMR (num o)=true
  ·have h2:2≤num m:=by rcases Nat.lt_or_ge (num m) 2 with g|g;simp[isMR,g]at p1;exact g
   have h3:2≤num o:=by rcases Nat.lt_or_ge (num o) 2 with g|g;simp[isMR,g]at p2;exact g
   rw[p1]at hm;rw[p2]at ho;rw[if_neg (by omega),decide_eq_true (show num m≠0 by omega),decide_eq_true (show num o≠0 by omega)]at hcm
   rw[p1,p2];generalize (num m-1)%num o=z at*;refine eW Tryz.call17 Tryz.func17 ?_;repeat' first|simp only[go_sem,seval]|refine cP hf ?_|refine cP hm ?_|refine cP ho ?_|refine cP hcm ?_|refine sB ?_|(first|apply pX|apply bX)<;>intro hc|refine⟨oD,?_⟩|exact oD|fail
   all_goals simp_all
   all_goals omega
  ·have p2:isMR (num o)=false:=by simpa using p2
   rw[p1]at hm;rw[p2]at ho;rw[p1,p2];refine eW Tryz.call17 Tryz.func17 ?_;repeat' first|simp only[go_sem,seval]|refine cP hf ?_|refine cP hm ?_|refine cP ho ?_|refine sB ?_|(first|apply pX|apply bX)<;>intro hc|refine⟨oD,?_⟩|exact oD|fail
   all_goals simp_all
   all_goals omega
 ·have p1:isMR (num m)=false:=by simpa using p1
  rw[p1]at hm;rw[p1];refine eW Tryz.call17 Tryz.func17 ?_;repeat' first|simp only[go_sem,seval]|refine cP hf ?_|refine cP hm ?_|refine sB ?_|(first|apply pX|apply bX)<;>intro hc|refine⟨oD,?_⟩|exact oD|fail
  all_goals simp_all
  all_goals omega
def pgHas (m o x:Bytes):Bool:=validN m&&validN o&&validN x&& !(o==[])&& !(x==[])&&decide (num x<num m)&&decide (num x^num o%num m=1%num m)
theorem pgHas_ok {m:Bytes} (lm:m.length≤8) (o x:Bytes):EvP Tryz.prog 56 [G m o, .s x] (.b (pgHas m o x)):=by
 have hf:=formed_ok m o;have vx:=natValid x;have hcm:=Cmp_ok x m
 by_cases h:validN m=true∧validN o=true∧validN x=true∧o≠[]∧x≠[]∧num x<num m
 ·obtain⟨v1,v2,v3,h4,h5,h6⟩:=h;have e4:(o==([]:Bytes))=false:=by simpa using h4
  have e5:(x==([]:Bytes))=false:=by simpa using h5
  have hn:=num8 lm;have hE:=ExpN (a:=num x) (m:=num m) (e:=o) (by omega) v2 hn (by omega)
  have hE0:=ExpN (a:=num x) (m:=num m) (e:=[]) (by omega) rfl hn (by omega)
  rw[N_of v3,N_of v1]at hE hE0;rw[show num ([]:Bytes)=0 from rfl,Nat.pow_zero]at hE0
  rw[v1,v2]at hf;rw[v3]at vx;rw[v3,v1]at hcm;have hlt: ¬cmpN (num x) (num m)≥0:=by rw[cmpGe];omega
  have e:pgHas m o x=decide (num x^num o%num m=1%num m):=by simp[pgHas,v1,v2,v3,e4,e5,h6]
  rw[e];generalize num x^num o%num m=z1 at*;generalize 1%num m=z2 at*;refine eW Tryz.call56 Tryz.func56 ?_;repeat' first|simp only[go_sem,seval,e4,e5,btsEq]|refine cP hf ?_|refine cP vx ?_|refine cP hcm ?_|refine cP hE ?_|refine cP hE0 ?_|refine sB ?_|(first|apply pX|apply bX)<;>intro hc|refine⟨oD,?_⟩|exact oD|fail
  all_goals simp_all
 ·have e:pgHas m o x=false:=by
   rw[Bool.eq_false_iff];intro g;simp[pgHas]at g;exact h ⟨g.1.1.1.1.1.1,g.1.1.1.1.1.2,g.1.1.1.1.2,g.1.1.1.2,g.1.1.2,g.1.2⟩
  rw[e]
  by_cases v1:validN m=true<;>by_cases v2:validN o=true<;>by_cases v3:validN x=true
  ·rw[v1,v2]at hf;rw[v3]at vx;rw[v3,v1]at hcm
   by_cases h4:o=[]
   ·subst h4;refine eW Tryz.call56 Tryz.func56 ?_;repeat' first|simp only[go_sem,seval,nn]|refine cP hf ?_|refine cP vx ?_|refine sB ?_|(first|apply pX|apply bX)<;>intro hc|refine⟨oD,?_⟩|exact oD|fail
   ·have e4:(o==([]:Bytes))=false:=by simpa using h4
    by_cases h5:x=[]
    ·subst h5;refine eW Tryz.call56 Tryz.func56 ?_;repeat' first|simp only[go_sem,seval,nn,e4]|refine cP hf ?_|refine cP vx ?_|refine sB ?_|(first|apply pX|apply bX)<;>intro hc|refine⟨oD,?_⟩|exact oD|fail
    ·have e5:(x==([]:Bytes))=false:=by simpa using h5
     have hge:cmpN (num x) (num m)≥0:=by rw[cmpGe];exact Nat.le_of_not_lt fun g=>h ⟨v1,v2,v3,h4,h5,g⟩
     refine eW Tryz.call56 Tryz.func56 ?_;repeat' first|simp only[go_sem,seval,e4,e5]|refine cP hf ?_|refine cP vx ?_|refine cP hcm ?_|refine sB ?_|(first|apply pX|apply bX)<;>intro hc|refine⟨oD,?_⟩|exact oD|fail
  all_goals simp only[Bool.not_eq_true]at v1 v2 v3
  all_goals simp only[v1,v2,Bool.and_true,Bool.and_false,Bool.and_self,Bool.true_and,Bool.false_and]at hf
  all_goals simp only[v3]at vx
  ·refine eW Tryz.call56 Tryz.func56 ?_;repeat' first|simp only[go_sem,seval]|refine cP hf ?_|refine cP vx ?_|refine sB ?_|(first|apply pX|apply bX)<;>intro hc|refine⟨oD,?_⟩|exact oD|fail
  ·refine eW Tryz.call56 Tryz.func56 ?_;repeat' first|simp only[go_sem,seval]|refine cP hf ?_|refine cP vx ?_|refine sB ?_|(first|apply pX|apply bX)<;>intro hc|refine⟨oD,?_⟩|exact oD|fail
  ·refine eW Tryz.call56 Tryz.func56 ?_;repeat' first|simp only[go_sem,seval]|refine cP hf ?_|refine cP vx ?_|refine sB ?_|(first|apply pX|apply bX)<;>intro hc|refine⟨oD,?_⟩|exact oD|fail
  ·refine eW Tryz.call56 Tryz.func56 ?_;repeat' first|simp only[go_sem,seval]|refine cP hf ?_|refine cP vx ?_|refine sB ?_|(first|apply pX|apply bX)<;>intro hc|refine⟨oD,?_⟩|exact oD|fail
  ·refine eW Tryz.call56 Tryz.func56 ?_;repeat' first|simp only[go_sem,seval]|refine cP hf ?_|refine cP vx ?_|refine sB ?_|(first|apply pX|apply bX)<;>intro hc|refine⟨oD,?_⟩|exact oD|fail
  ·refine eW Tryz.call56 Tryz.func56 ?_;repeat' first|simp only[go_sem,seval]|refine cP hf ?_|refine cP vx ?_|refine sB ?_|(first|apply pX|apply bX)<;>intro hc|refine⟨oD,?_⟩|exact oD|fail
  ·refine eW Tryz.call56 Tryz.func56 ?_;repeat' first|simp only[go_sem,seval]|refine cP hf ?_|refine cP vx ?_|refine sB ?_|(first|apply pX|apply bX)<;>intro hc|refine⟨oD,?_⟩|exact oD|fail
theorem pgGen_ok {m:Bytes} (lm:m.length≤8) (o x:Bytes):EvP Tryz.prog 18 [G m o, .s x] (.b (pgHas m o x&& !(x==[1]))):=by
 have h:=pgHas_ok lm o x;generalize pgHas m o x=z at*;refine eW Tryz.call18 Tryz.func18 ?_;repeat' first|simp only[go_sem,seval]|refine cP h ?_|refine sB ?_|(first|apply pX|apply bX)<;>intro hc|refine⟨oD,?_⟩|exact oD|fail
 all_goals simp_all
def pwE (m:Bytes):Int:=if !validN m then 3 else if goodB m []then 0 else 13
theorem pwCheck_ok (m:Bytes):EvP Tryz.prog 73 [G m []] (E (pwE m)):=by
 have hv:=natValid m;have hv0:=natValid [];rw[show validN []=true from rfl]at hv0
 by_cases h:validN m=true
 ·have hb:=Bit_ok h 0 (by decide)
  have hcm:=Cmp_ok m [8];rw[h]at hv;rw[h,show validN [8]=true from rfl,show num [8]=8 from rfl]at hcm
  have he:cmpN (num m) 8≤0↔ ¬8<num m:=by unfold cmpN;split<;>(try split)<;>omega
  have e:pwE m=if(num m).testBit 0&&decide (8<num m)then 0 else 13:=by simp[pwE,goodB,h]
  rw[e];clear e;generalize (num m).testBit 0=tb at*;refine eW Tryz.call73 Tryz.func73 ?_;repeat' first|simp only[go_sem,seval,nn]|refine cP hv ?_|refine cP hv0 ?_|refine cP hb ?_|refine cP Of8 ?_|refine cP hcm ?_|refine sB ?_|(first|apply pX|apply bX)<;>intro hc|refine⟨oD,?_⟩|exact oD|fail
  all_goals simp_all
 ·have h:validN m=false:=by simpa using h
  rw[h]at hv;have e:pwE m=3:=by simp[pwE,h]
  rw[e];refine eW Tryz.call73 Tryz.func73 ?_;repeat' first|simp only[go_sem,seval]|refine cP hv ?_|refine sB ?_|(first|apply pX|apply bX)<;>intro hc|refine⟨oD,?_⟩|exact oD|fail
theorem pwhas_ok {m:Bytes} (lm:m.length≤8) (x:Bytes):EvP Tryz.prog 79 [G m [], .s x] (.b (rHas m [] x)):=by
 have h:=rHas_ok lm [] x;refine eW Tryz.call79 Tryz.func79 ?_;repeat' first|simp only[go_sem,seval,nn]|refine cP h ?_|refine sB ?_|(first|apply pX|apply bX)<;>intro hc|refine⟨oD,?_⟩|exact oD|fail
end Go.Proofs.YtmobkhegihemeaaGreatDoor
namespace Go.Proofs.YtmobkhegihemeaaGreatDoor
open Go Go.Dom Go.Num
set_option maxRecDepth 100000
set_option maxHeartbeats 8000000
structure Par where
 (c sl mm mo mg mh wm wo wg wh se at' ha el es bl ma:Bytes)
def Par.pv (p:Par):PV:= .agg [.s p.c, .s p.sl, .s p.mm, .s p.mo, .s p.mg, .s p.mh, .s p.wm, .s p.wo, .s p.wg, .s p.wh, .s p.se, .s p.at', .s p.ha, .s p.el, .s p.es, .s p.bl, .s p.ma]
def Par.nums (p:Par):List Bytes:=[p.c,p.sl,p.se,p.at',p.ha,p.el,p.es,p.bl,p.ma,p.mm,p.mo,p.mg,p.mh,p.wm,p.wo,p.wg,p.wh]
theorem cmpLt2 {x:Bytes} (h:validN x=true):EvP Tryz.prog 30 [.s x, .s [2]] (E (cmpN (num x) 2)):=by
 have:=Cmp_ok x [2]
 rwa[h,show validN [2]=true from rfl,show num [2]=2 from rfl]at this
theorem cmpVV {x y:Bytes} (h:validN x=true) (g:validN y=true):EvP Tryz.prog 30 [.s x, .s y] (E (cmpN (num x) (num y))):=by
 have:=Cmp_ok x y
 rwa[h,g]at this
end Go.Proofs.YtmobkhegihemeaaGreatDoor
namespace Go.Proofs.YtmobkhegihemeaaGreatDoor
open Go Go.Dom Go.RowKit Go.Shelf
set_option maxRecDepth 100000
set_option maxHeartbeats 4000000
structure Key where
 (name m o z s:Bytes)
 r:List Bytes
 (u h:Bytes)
def Key.pv (k:Key):PV:= .agg [.s k.name, .s k.m, .s k.o, .s k.z, .s k.s, .sl (k.r.map .s), .s k.u, .s k.h]
end Go.Proofs.YtmobkhegihemeaaGreatDoor
namespace Go.Proofs.YtmobkhegihemeaaGreatDoor
open Go Go.Dom Go.Num
set_option maxRecDepth 100000
set_option maxHeartbeats 8000000
def badC (i:Nat) (c:Int):Bool:= !((decide (c≥97)&&decide (c≤122))||(decide (c≥65)&&decide (c≤90)))&&(((i:Int)==0)||((c !=95)&&(decide (c<48)||decide (c>57))))
def chr (n:Bytes) (i:Nat):Int:=((n.getD i 0).toNat:Int)
def nameB (n:Bytes):Bool:=(List.range n.length).all (fun i=> !badC i (chr n i))&& !(n==[])&&decide (n.length≤32)


def Par.nums2 (p:Par):List Bytes:=[p.c,p.sl,p.mm,p.mo,p.mg,p.mh,p.wm,p.wo,p.wg,p.wh,p.se,p.at',p.ha,p.el,p.es,p.bl,p.ma]
end Go.Proofs.YtmobkhegihemeaaGreatDoor
namespace Go.Proofs.YtmobkhegihemeaaGreatDoor
open Go Go.Dom Go.ChangeShapes Go.WideShapes Go.ChangeAt Go.RowKit
set_option maxRecDepth 100000
theorem ownK:ownKnob Tryz.prog.godebug=none:=by kernel_rfl
theorem laidK:laidOutB Tryz.prog=true:=by kernel_rfl
theorem uBool:Tryz.prog.underlying 4=some .bool:=by kernel_rfl
theorem uS:Tryz.prog.underlying 9=some .string:=by kernel_rfl
theorem uN:Tryz.prog.underlying 22=some .string:=by kernel_rfl
theorem cS:Tryz.prog.cellsOf 9=1:=by kernel_rfl
theorem cN:Tryz.prog.cellsOf 22=1:=by kernel_rfl
theorem cGr:Tryz.prog.cellsOf 24=2:=by kernel_rfl
theorem tk {ps:List PV} {x:PV} (h:List.take 1 ps=[x]):ps=x::List.drop 1 ps:=by cases ps<;>simp_all
theorem tk2 {ps:List PV} {x y:PV} (h:List.take 2 ps=[x,y]):ps=x::y::List.drop 2 ps:=by
 rcases ps with _|⟨a,_|⟨b,r⟩⟩<;>simp_all
theorem typN {k:Nat} {ps:List PV} (h:Typ Tryz.prog (k+1) 22 ps): ∃b:Bytes,ps=[.s b]:=by
 simp only[Typ,uN]at h;obtain⟨x,rfl,-⟩:=h;exact⟨x,rfl⟩
theorem typSt {k:Nat} {ps:List PV} (h:Typ Tryz.prog (k+1) 9 ps): ∃b:Bytes,ps=[.s b]:=by
 simp only[Typ,uS]at h;obtain⟨x,rfl,-⟩:=h;exact⟨x,rfl⟩
theorem typGr {k:Nat} {ps:List PV} (h:Typ Tryz.prog (k+2) 24 ps): ∃a b:Bytes,ps=[.s a, .s b]:=by
 rw[Typ,Tryz.underlying24]at h;simp only[TypS,cN]at h;obtain⟨h1,h2,h3⟩:=h;obtain⟨a,h1⟩:=typN h1;obtain⟨b,h2⟩:=typN h2;exact⟨a,b,by rw[tk h1,tk h2,h3]⟩
section
variable {H:Type} {enc:TypeId×Value→H} {P:Program}
theorem postBelow {f:Func} {s:ChangeSpec} {apart fresh handsOn again:Bool} {W W':World} {args:Array Value} {v:Value} {ds gs:List (DataW H)} {before pa pv:List MemPlace}
  (hW:DataW.Whole enc P f.params.toList s.vars apart W args.toList ds gs before)
  (hres: ∀(b:Nat) (sp:Nat→Bool) (hd:Bool),DataW.TrodAll enc P W' b sp hd f.resultTypes.toList (v.resultList f.resultTypes.size) (s.fn H (ds++gs)).results [])
  (hargs: ∀sp:Nat→Bool,(∀p∈before,sp p.block=true)→DataW.TrodAll enc P W' 0 sp true f.params.toList args.toList (s.fn H (ds++gs)).args pa)
  (hvars: ∀sp:Nat→Bool,(∀p∈before,sp p.block=true)→DataW.TrodVars enc P W' sp s.vars (s.fn H (ds++gs)).vars pv)
  (hps:before=pa++pv) (hb:Below W.heap.size W W')
  (hok: ∀(j:Nat) (t:TypeId) (r:Value),f.resultTypes[j]?=some t→(v.resultList f.resultTypes.size)[j]?=some r→Value.okWide P W' .any 0 t r):
  s.post enc P f apart fresh handsOn again W args v W':=by
 have hlt: ∀p∈before,p.block<W.heap.size:=fun p hp=>hW.lt p hp
 have hold: ∀p∈before,(fun b=>decide (b<W.heap.size)) p.block=true:=fun p hp=>by simpa using hlt p hp
 refine⟨ds,gs,before,[],pa,pv,hW,hres _ _ _,hargs _ hold,hvars _ hold,World.keptBut_mono (fun p hp=>⟨hp,?_⟩) (hb.frame (·∈before)),fun _=> ?_⟩
 ·rw[hps,List.mem_append]at hp;exact Or.inr hp
 ·obtain⟨_,_,_,_,_,hz,hn⟩:=hW;refine⟨hok,_,_,([]++pa)++pv,⟨[]++pa,pv,trodAll_append (hargs _ (fun _ _=>rfl)) (hres _ _ _),hvars _ (fun _ _=>rfl),rfl,?_,?_⟩,?_⟩
  ·intro b off hp;have hin:MemPlace.cell b off∈before:=by rw[hps];simpa using hp
   rw[hb.frozen (hlt _ hin)];exact hz b off hin
  ·intro ha;have:=hn ha;rw[hps]at this;simpa using this
  ·intro p hp _;rw[hps];simpa using hp
end
def laidL:List (String×DataW Unit):=[("math/bits.deBruijn32tab",Rows.laid_math_bits_deBruijn32tab),("math/bits.deBruijn64tab",Rows.laid_math_bits_deBruijn64tab),("internal/strconv.uint64pow10",Rows.laid_internal_strconv_uint64pow10)]
theorem tab_cells {W:World} {n:String} {g:Nat} {t e:TypeId} {k:IntKind} {m:Nat} {zs:List Int} (h:Lib.VarReads Tryz.prog W n (Lib.tabData k zs)) (hg:Tryz.prog.globalNamed n=some g) (ht:(Tryz.prog.globals[g]?).map (·.type)=some t) (hu:Tryz.prog.underlying t=some (.array m e)) (he:Tryz.prog.underlying e=some (.int k)) (hce:Tryz.prog.cellsOf e=1) (hct:Tryz.prog.cellsOf t=m) (i:Nat):
  W.cell? ⟨g,i,none⟩=(zs[i]?).map fun z=>Value.int k z:=by
 obtain⟨g',t',cs,fuel,p,h1,h2,h3,h4⟩:=h;obtain rfl:=Option.some.inj (hg.symm.trans h1);obtain rfl:=Option.some.inj (ht.symm.trans h2);have h5:=Lib.cells_of_tab hu he hce hct h4;rw[World.var?_cell h1 h3 i,←Array.getElem?_toList,h5,List.getElem?_map]
theorem tabs_read {W:World} (h:laidMet Tryz.prog laidL W): ∀b o v,TR Tryz.prog b o=some v→W.cell? ⟨b,o,none⟩=some v:=by
 have h1:=fun i=>tab_cells (Lib.laidMet.reads h (n:= "math/bits.deBruijn32tab") (d:=Lib.tabData .u8 tab_deBruijn32tab) (by simp[laidL];rfl)) (g:=5) (t:=410) (e:=5) (m:=32) (by kernel_rfl) (by kernel_rfl) (by kernel_rfl) (by kernel_rfl) (by kernel_rfl) (by kernel_rfl) i
 have h2:=fun i=>tab_cells (Lib.laidMet.reads h (n:= "math/bits.deBruijn64tab") (d:=Lib.tabData .u8 tab_deBruijn64tab) (by simp[laidL];rfl)) (g:=0) (t:=267) (e:=5) (m:=64) (by kernel_rfl) (by kernel_rfl) (by kernel_rfl) (by kernel_rfl) (by kernel_rfl) (by kernel_rfl) i
 have h3:=fun i=>tab_cells (Lib.laidMet.reads h (n:= "internal/strconv.uint64pow10") (d:=Lib.tabData .u64 tab_uint64pow10) (by simp[laidL];rfl)) (g:=4) (t:=398) (e:=47) (m:=20) (by kernel_rfl) (by kernel_rfl) (by kernel_rfl) (by kernel_rfl) (by kernel_rfl) (by kernel_rfl) i
 intro b o v hv;have key: ∀(k:IntKind) (zs:List Int),((zs.map fun n=>(k,n))[o]?).map (fun p:IntKind×Int=>Value.int p.1 p.2)=(zs[o]?).map fun z=>Value.int k z:=by
  intro k zs;rw[List.getElem?_map,Option.map_map];rfl
 unfold TR at hv;simp only[Tabs.tab,List.lookup]at hv
 by_cases e1:b=5
 ·subst e1;rw[h1 o,←key];simpa using hv
 ·by_cases e2:b=0
  ·subst e2;rw[h2 o,←key];simpa using hv
  ·by_cases e3:b=4
   ·subst e3;rw[h3 o,←key];simpa using hv
   ·simp only[show(b==5)=false from beq_eq_false_iff_ne.2 e1,show(b==0)=false from beq_eq_false_iff_ne.2 e2,show(b==4)=false from beq_eq_false_iff_ne.2 e3]at hv
    cases hv
end Go.Proofs.YtmobkhegihemeaaGreatDoor
namespace Go.Proofs.YtmobkhegihemeaaGreatDoor
open Go Go.Dom Go.Num
set_option maxRecDepth 100000
set_option maxHeartbeats 8000000
theorem times1_ok (n1 n2 nm:Nat) (hne:n1≠n2) {a b m:Nat} (o:Bytes) (el el2:Option TypeId) (ha:a<18446744073709551616) (hb:b<18446744073709551616) (hm:m<18446744073709551616) (h0:0<m):EvA Tryz.prog 127 nm [(n1,⟨0,[.v (N a)],false,el⟩),(n2,⟨0,[.v (N m), .v (.s o)],false,el2⟩)] [.v (N b), .p n1 0 0, .p n2 0 0] (.tup []) [(n1,some ⟨0,[.v (N (a*b%m))],false,el⟩)]:=by
 have hx:=mMulN ha hb hm h0;refine EvA.w mixed Tryz.call127 Tryz.func127 rfl (tyC.1 _ _ _ (by cbv)) (tyC.2 _ _ (by cbv)) (obs:=[⟨0,[.v (N a)],false,el⟩,⟨0,[.v (N m), .v (.s o)],false,el2⟩]) (args:=[.v (N b), .p 0 0 0, .p 1 0 0]) (fs:=[some (some ⟨0,[.v (N (a*b%m))],false,el⟩),none]) (j:=none) (nw:=none) (v:= .tup []) (ns:=[n1,n2]) (obsA:=[⟨0,[.v (N a)],false,el⟩,⟨0,[.v (N m), .v (.s o)],false,el2⟩]) rfl ?_ (by simp) (by simp[hne]) rfl (by simp[mapO,AObj.ren,AV.ren,AV.ren.renL]) (by simp[mapO,AV.ren,ixOf,hne,Ne.symm hne]) (by simp[AV.ren,AV.ren.renL]) (by simp[upsOf,outs,AObj.ren,AV.ren,AV.ren.renL])
 simp only[go_sem,seval];repeat' first|simp only[go_sem,seval,true_or,or_true,false_or,or_false,Option.some.injEq,RetA,resLA,outV,outC,outO,viewC,hfV,foV,finH,finN,mkResA,mapO_outC_bcells,AV.ren,AV.ren.renL,renL_bcells]|refine cP hx ?_|refine sB ?_|(first|apply pX|apply bX)<;>intro hc|refine⟨oD,?_⟩|exact oD|fail
 all_goals skip
theorem mks1 {x:AV}:(List.replicate 1 [x]).flatten=[x]:=rfl
theorem drop1 {x:AV}:List.drop 1 [x]=[]:=rfl
theorem take1 {x:AV}:List.take 1 [x]=[x]:=rfl
theorem set1 {x y:AV}:List.set [x] 0 y=[y]:=rfl
theorem blen0 {n:Nat}:n/2^blen n=0:=by
 refine Nat.div_eq_of_lt ?_;unfold blen;split
 ·rename_i h;rw[h];decide
 ·rename_i h;exact Nat.lt_log2_self
theorem pvA_map (x:PV) (l:List PV):pvArgs (.v x::l.map .v)=some (x::l):=by
 have h: ∀l:List PV,pvArgs (l.map .v)=some l:=by
  intro l
  induction l with
  |nil=>rfl
  |cons y l ih=>
   unfold pvArgs at ih⊢;rw[List.map_cons,mapO,ih];rfl
 have:=h (x::l);exact this
end Go.Proofs.YtmobkhegihemeaaGreatDoor
