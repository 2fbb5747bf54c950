/-
  Part of the proof, part Y28. Own work.
-/
import Derived.Test.YtmledjfbgjnknaaGreatDoorY27
set_option linter.all false
namespace Go.Proofs.YtmledjfbgjnknaaGreatDoor
open Go Go.Dom Go.Num
set_option maxRecDepth 100000
set_option maxHeartbeats 4000000
def pwE (m:Bytes):Int:=if !validN m then 3 else if goodB m []then 0 else 13
theorem pwCheck_ok (m:Bytes):EvP Tryz.prog 50 [G m []] (E (pwE m)):=by
 have hv:=natValid m;have hv0:=natValid [];rw[show validN []=true from rfl]at hv0
 by_cases h:validN m=true
 ·have hb:=Bit_ok h 0 (by decide)
  have hcm:=Cmp_ok m [8];rw[h]at hv;rw[h,show validN [8]=true from rfl,show num [8]=8 from rfl]at hcm
  have he:cmpN (num m) 8≤0↔ ¬8<num m:=by unfold cmpN;split<;>(try split)<;>omega
  have e:pwE m=if(num m).testBit 0&&decide (8<num m)then 0 else 13:=by simp[pwE,goodB,h]
  rw[e];clear e;generalize (num m).testBit 0=tb at*;refine eW Tryz.call50 Tryz.func50 ?_;repeat' first|simp only[go_sem,seval,nn]|refine cP hv ?_|refine cP hv0 ?_|refine cP hb ?_|refine cP Of8 ?_|refine cP hcm ?_|refine sB ?_|(first|apply pX|apply bX)<;>intro hc|refine⟨oD,?_⟩|exact oD|fail
  all_goals simp_all
 ·have h:validN m=false:=by simpa using h
  rw[h]at hv;have e:pwE m=3:=by simp[pwE,h]
  rw[e];refine eW Tryz.call50 Tryz.func50 ?_;repeat' first|simp only[go_sem,seval]|refine cP hv ?_|refine sB ?_|(first|apply pX|apply bX)<;>intro hc|refine⟨oD,?_⟩|exact oD|fail
theorem pwhas_ok {m:Bytes} (lm:m.length≤8) (x:Bytes):EvP Tryz.prog 105 [G m [], .s x] (.b (rHas m [] x)):=by
 have h:=rHas_ok lm [] x;refine eW Tryz.call105 Tryz.func105 ?_;repeat' first|simp only[go_sem,seval,nn]|refine cP h ?_|refine sB ?_|(first|apply pX|apply bX)<;>intro hc|refine⟨oD,?_⟩|exact oD|fail
theorem rHas_good {m o x:Bytes} (h:rHas m o x=true):goodB m o=true:=by
 simp only[rHas,Bool.and_eq_true]at h;exact h.1.1.1.1
theorem pwE0 {m:Bytes}:pwE m=0↔goodB m []=true:=by
 unfold pwE;constructor
 ·intro h;split at h
  ·cases h
  ·split at h
   ·assumption
   ·cases h
 ·intro h;have:validN m=true:=by simp[goodB]at h;exact h.1.1
  simp[this,h]
theorem pwHas_ok {m:Bytes} (lm:m.length≤8) (x:Bytes):EvP Tryz.prog 51 [G m [], .s x] (.b (rHas m [] x)):=by
 have h1:=pwCheck_ok m;have h2:=pwhas_ok lm x
 by_cases h0:pwE m=0
 ·rw[h0]at h1;refine eW Tryz.call51 Tryz.func51 ?_;repeat' first|simp only[go_sem,seval]|refine cP h1 ?_|refine cP h2 ?_|refine sB ?_|(first|apply pX|apply bX)<;>intro hc|refine⟨oD,?_⟩|exact oD|fail
  all_goals simp_all
 ·have e:rHas m [] x=false:=by
   rw[Bool.eq_false_iff];intro g;exact h0 (pwE0.2 (rHas_good g))
  rw[e];generalize pwE m=z at*;refine eW Tryz.call51 Tryz.func51 ?_;repeat' first|simp only[go_sem,seval]|refine cP h1 ?_|refine sB ?_|(first|apply pX|apply bX)<;>intro hc|refine⟨oD,?_⟩|exact oD|fail
  all_goals simp_all
end Go.Proofs.YtmledjfbgjnknaaGreatDoor
namespace Go.Proofs.YtmledjfbgjnknaaGreatDoor
open Go Go.Dom Go.Num
set_option maxRecDepth 100000
set_option maxHeartbeats 8000000
structure Par where
 (c sl mm mo mg mh wm wo wg wh se at' ha el es bl ma:Bytes)
def Par.pv (p:Par):PV:= .agg [.s p.c, .s p.sl, .s p.mm, .s p.mo, .s p.mg, .s p.mh, .s p.wm, .s p.wo, .s p.wg, .s p.wh, .s p.se, .s p.at', .s p.ha, .s p.el, .s p.es, .s p.bl, .s p.ma]
def Par.nums (p:Par):List Bytes:=[p.c,p.sl,p.se,p.at',p.ha,p.el,p.es,p.bl,p.ma,p.mm,p.mo,p.mg,p.mh,p.wm,p.wo,p.wg,p.wh]
theorem numbers_ok (p:Par):EvP Tryz.prog 80 [p.pv] (.sl (p.nums.map .s)):=by
 obtain⟨c,sl,mm,mo,mg,mh,wm,wo,wg,wh,se,at',ha,el,es,bl,ma⟩:=p;unfold Par.pv Par.nums;simp only;refine eW Tryz.call80 Tryz.func80 ?_;repeat' first|simp only[go_sem,seval,List.getD_cons_zero,List.getD_cons_succ]|(refine loop_unroll' ?_)|refine sB ?_|(first|apply pX|apply bX)<;>intro hc|refine⟨oD,?_⟩|exact oD|fail
 rfl
theorem unit_ok {p:Par} (lw:p.wm.length≤8) (x:Bytes):EvP Tryz.prog 81 [.s x, .pt p.pv 0, .pt (.agg [.s [1]]) 0] (.b (rHas p.wm p.wo x&& !(x==[1]))):=by
 have h:=rHas_ok lw p.wo x;unfold Par.pv;generalize rHas p.wm p.wo x=z at*;refine eW Tryz.call81 Tryz.func81 ?_;repeat' first|simp only[go_sem,seval]|refine cP h ?_|refine sB ?_|(first|apply pX|apply bX)<;>intro hc|refine⟨oD,?_⟩|exact oD|fail
 all_goals simp_all
def Par.short (p:Par):Prop:= ∀x∈p.nums,x.length≤8
def Par.tens (p:Par):List Bytes:=[p.c,p.sl,p.se,p.at',p.ha,p.el,p.es,p.bl,p.ma]
def parE (p:Par):Int:=if p.nums.all validN then
  (if pgE p.mm p.mo≠0∨ !(pgHas p.mm p.mo p.mg&& !(p.mg==[1]))∨ !(pgHas p.mm p.mo p.mh&& !(p.mh==[1]))∨ !(rHas p.wm p.wo p.wg&& !(p.wg==[1]))∨ !(rHas p.wm p.wo p.wh&& !(p.wh==[1]))then 13
   else if p.tens.any (fun x=>decide (num x<2))then 2
   else if num p.at'*8>num p.mo∨num p.c>num p.mo∨num p.se>num p.mo then 2 else 0)else 3
theorem cmpLt2 {x:Bytes} (h:validN x=true):EvP Tryz.prog 85 [.s x, .s [2]] (E (cmpN (num x) 2)):=by
 have:=Cmp_ok x [2]
 rwa[h,show validN [2]=true from rfl,show num [2]=2 from rfl]at this
theorem cmpVV {x y:Bytes} (h:validN x=true) (g:validN y=true):EvP Tryz.prog 85 [.s x, .s y] (E (cmpN (num x) (num y))):=by
 have:=Cmp_ok x y
 rwa[h,g]at this
theorem cmpLtI (a b:Nat):(cmpN a b<0)=(a<b):=by rw[eq_iff_iff];exact cmpN_lt
theorem cmpGtI (a b:Nat):(cmpN a b>0)=(b<a):=by
 unfold cmpN;rw[eq_iff_iff];split<;>(try split)<;>omega
theorem parBad (p:Par) (h:p.nums.all validN=false):EvP Tryz.prog 32 [p.pv] (E 3):=by
 have hn:=numbers_ok p;obtain⟨c,sl,mm,mo,mg,mh,wm,wo,wg,wh,se,at',ha,el,es,bl,ma⟩:=p;unfold Par.pv Par.nums at*;simp only[List.map_cons,List.map_nil]at*;refine eW Tryz.call32 Tryz.func32 ?_;repeat' first|simp only[go_sem,seval,List.getD_cons_zero,List.getD_cons_succ]|refine cP hn ?_|refine cP (natValid _) ?_|(refine loop_unroll' ?_)|refine sB ?_|(first|apply pX|apply bX)<;>intro hc|refine⟨oD,?_⟩|exact oD|fail
 exfalso
 simp_all
theorem parGood (p:Par) (h:p.nums.all validN=true) (hs:p.short):EvP Tryz.prog 32 [p.pv] (E (parE p)):=by
 have hn:=numbers_ok p;have lw:p.wm.length≤8:=hs _ (by simp[Par.nums])
 have lm:p.mm.length≤8:=hs _ (by simp[Par.nums])
 have la:p.at'.length≤8:=hs _ (by simp[Par.nums])
 have u1:=unit_ok lw p.wg;have u2:=unit_ok lw p.wh;have c1:=pgCheck_ok p.mm p.mo;have c2:=pgGen_ok lm p.mo p.mg;have c3:=pgGen_ok lm p.mo p.mh;unfold parE;rw[h];generalize (rHas p.wm p.wo p.wg&& !(p.wg==[1]))=b1 at*;generalize (rHas p.wm p.wo p.wh&& !(p.wh==[1]))=b2 at*;generalize (pgHas p.mm p.mo p.mg&& !(p.mg==[1]))=b3 at*;generalize (pgHas p.mm p.mo p.mh&& !(p.mh==[1]))=b4 at*;generalize pgE p.mm p.mo=e1 at*;clear hs;obtain⟨c,sl,mm,mo,mg,mh,wm,wo,wg,wh,se,at',ha,el,es,bl,ma⟩:=p;unfold Par.pv Par.nums Par.tens at*;simp only[List.map_cons,List.map_nil,List.all_cons,List.all_nil,Bool.and_eq_true,Bool.and_true]at*;obtain⟨h1,h2,h3,h4,h5,h6,h7,h8,h9,h10,h11,h12,h13,h14,h15,h16,h17⟩:=h;have v1:=natValid c;have v2:=natValid sl;have v3:=natValid se;have v4:=natValid at';have v5:=natValid ha;have v6:=natValid el;have v7:=natValid es;have v8:=natValid bl;have v9:=natValid ma;have v10:=natValid mm;have v11:=natValid mo;have v12:=natValid mg;have v13:=natValid mh;have v14:=natValid wm;have v15:=natValid wo;have v16:=natValid wg;have v17:=natValid wh;rw[h1]at v1;rw[h2]at v2;rw[h3]at v3;rw[h4]at v4;rw[h5]at v5;rw[h6]at v6;rw[h7]at v7;rw[h8]at v8;rw[h9]at v9;rw[h10]at v10;rw[h11]at v11;rw[h12]at v12;rw[h13]at v13;rw[h14]at v14;rw[h15]at v15;rw[h16]at v16;rw[h17]at v17;have d1:=cmpLt2 h1;have d2:=cmpLt2 h2;have d3:=cmpLt2 h3;have d4:=cmpLt2 h4;have d5:=cmpLt2 h5;have d6:=cmpLt2 h6;have d7:=cmpLt2 h7;have d8:=cmpLt2 h8;have d9:=cmpLt2 h9;have hm8:EvP Tryz.prog 86 [.s at', .s [8]] (.tup [N (num at'*8),E 0]):=by
  have:=Mul_ok at' [8];have hl:num at'*8<LIM:=Nat.lt_of_lt_of_le (show num at'*8<18446744073709551616*8 by have:=num8 la;omega) (by unfold LIM;decide+kernel)
  simpa only[mulB,h4,show validN [8]=true from rfl,Bool.and_self,if_true,show num [8]=8 from rfl,hl]using this
 have hv8:validN (bts (num at'*8))=true:=valid_bts (Nat.lt_of_lt_of_le (show num at'*8<18446744073709551616*8 by have:=num8 la;omega) (by decide+kernel))
 have f1:=cmpVV hv8 h11;rw[num_bts]at f1;have f2:=cmpVV h1 h11;have f3:=cmpVV h3 h11;generalize num at'*8=t8 at*;clear hv8 h1 h2 h3 h4 h5 h6 h7 h8 h9 h10 h11 h12 h13 h14 h15 h16 h17;refine eW Tryz.call32 Tryz.func32 ?_;repeat' first|simp only[go_sem,seval,List.getD_cons_zero,List.getD_cons_succ,cmpLtI,cmpGtI]|refine cP hn ?_|refine cP v1 ?_|refine cP v2 ?_|refine cP v3 ?_|refine cP v4 ?_|refine cP v5 ?_|refine cP v6 ?_|refine cP v7 ?_|refine cP v8 ?_|refine cP v9 ?_|refine cP v10 ?_|refine cP v11 ?_|refine cP v12 ?_|refine cP v13 ?_|refine cP v14 ?_|refine cP v15 ?_|refine cP v16 ?_|refine cP v17 ?_|refine cP Of1 ?_|refine cP Of2 ?_|refine cP Of8 ?_|refine cP c1 ?_|refine cP c2 ?_|refine cP c3 ?_|refine cV u1 ?_|refine cV u2 ?_|refine cP d1 ?_|refine cP d2 ?_|refine cP d3 ?_|refine cP d4 ?_|refine cP d5 ?_|refine cP d6 ?_|refine cP d7 ?_|refine cP d8 ?_|refine cP d9 ?_|refine cP hm8 ?_|refine cP f1 ?_|refine cP f2 ?_|refine cP f3 ?_|(refine loop_unroll' ?_)|refine sB ?_|(first|apply pX|apply bX)<;>intro hc|refine⟨oD,?_⟩|exact oD|fail
 all_goals clear hn u1 u2 c1 c2 c3 v1 v2 v3 v4 v5 v6 v7 v8 v9 v10 v11 v12 v13 v14 v15 v16 v17 d1 d2 d3 d4 d5 d6 d7 d8 d9 hm8 f1 f2 f3
 all_goals first|(simp_all;done)|(simp_all;omega)
def badC (i:Nat) (c:Int):Bool:= !((decide (c≥97)&&decide (c≤122))||(decide (c≥65)&&decide (c≤90)))&&(((i:Int)==0)||((c !=95)&&(decide (c<48)||decide (c>57))))
def chr (n:Bytes) (i:Nat):Int:=((n.getD i 0).toNat:Int)
def nameB (n:Bytes):Bool:=(List.range n.length).all (fun i=> !badC i (chr n i))&& !(n==[])&&decide (n.length≤32)
theorem isName_ok (n:Bytes) (hn:n.length≤60):EvP Tryz.prog 33 [.s n] (.b (nameB n)):=by
 refine eW Tryz.call33 Tryz.func33 ?_;repeat' first|simp only[go_sem,seval]|refine sB ?_|(first|apply pX|apply bX)<;>intro hc|refine⟨oD,?_⟩|exact oD|fail
 refine loop_run (α:=Nat) (fun i=>n.length-i) (fun i=>⟨[(0, .v (.s n)),(7, .v (.i .i64 n.length)),(8, .v (.i .i64 (i:Nat)))],[],_⟩) (fun i=>i≤n.length∧ ∀j,j<i→badC j (chr n j)=false) 0 (fun _=>Nat.le_refl _) ⟨Nat.zero_le _,fun j hj=>by omega⟩ ?_ ?_
 ·exact lE
 ·rintro i ⟨hi,ha⟩ R hR
  by_cases hlt:i<n.length
  ·have hlt':(i:Int)<n.length:=by omega
   have hbad:badC i (chr n i)=true→nameB n=false:=by
    intro h;unfold nameB;have:(List.range n.length).all (fun i=> !badC i (chr n i))=false:=by
     rw[Bool.eq_false_iff];intro g;have:=List.all_eq_true.1 g i (List.mem_range.2 hlt);rw[h]at this;cases this
    rw[this];rfl
   have hgo:badC i (chr n i)=false→ ∀s',(AS.mk [(0, .v (.s n)),(7, .v (.i .i64 n.length)),(8, .v (.i .i64 ((i+1:Nat):Int)))] [] 1004).Le s'→R s':=by
    intro h s' hs;refine hR (i+1) ⟨by omega,fun j hj=> ?_⟩ (by omega) s' hs
    by_cases e:j=i
    ·subst e;exact h
    ·exact ha j (by omega)
   clear hR ha;obtain⟨c,hcc⟩: ∃c,chr n i=c:=⟨_,rfl⟩;have hcd:((n.getD i 0).toNat:Int)=c:=hcc;have h0:0≤c∧c<256:=by rw[←hcd];have:=(n.getD i 0).toNat_lt;omega
   rw[hcc]at hbad hgo;unfold badC at hbad hgo;obtain⟨b1,h1⟩: ∃b,decide (c≥97)=b:=⟨_,rfl⟩;obtain⟨b2,h2⟩: ∃b,decide (c≤122)=b:=⟨_,rfl⟩;obtain⟨b3,h3⟩: ∃b,decide (c≥65)=b:=⟨_,rfl⟩;obtain⟨b4,h4⟩: ∃b,decide (c≤90)=b:=⟨_,rfl⟩;obtain⟨b5,h5⟩: ∃b,((i:Int)==0)=b:=⟨_,rfl⟩;obtain⟨b6,h6⟩: ∃b,(c !=95)=b:=⟨_,rfl⟩;obtain⟨b7,h7⟩: ∃b,decide (c<48)=b:=⟨_,rfl⟩;obtain⟨b8,h8⟩: ∃b,decide (c>57)=b:=⟨_,rfl⟩;rw[h1,h2,h3,h4,h5,h6,h7,h8]at hbad hgo;have e1:decide ((i:Int)<(n.length:Int))=true:=decide_eq_true hlt';repeat' first|simp only[go_sem,seval,hcd,h1,h2,h3,h4,h5,h6,h7,h8,e1]|refine sB ?_|(first|apply pX|apply bX)<;>intro hc|refine⟨oD,?_⟩|exact oD|fail
   all_goals clear h1 h2 h3 h4 h5 h6 h7 h8 hcd hcc h0
   all_goals try simp only[Bool.not_eq_true',Bool.not_eq_false']at*
   all_goals subst_vars
   all_goals first
     |(refine hgo rfl _ ?_;(refine AS.Le.of (by first|decide|omega) ?_ ?_<;>simp[LeT,LeH,tget,hget,AV.bd,AV.bd.bdL,u8,bd_cellsOf,bcells_bd,icells_bd]);done)
     |(rw[hbad rfl];done)
     |(cases b6<;>first|(simp at hc;done)|(refine hgo rfl _ ?_;(refine AS.Le.of (by first|decide|omega) ?_ ?_<;>simp[LeT,LeH,tget,hget,AV.bd,AV.bd.bdL,u8,bd_cellsOf,bcells_bd,icells_bd]);done)|(rw[hbad rfl];done)|fail)
     |fail
  ·obtain rfl:i=n.length:=by omega
   have e:nameB n=(!(n==[])&&decide (n.length≤32)):=by
    unfold nameB;have:(List.range n.length).all (fun i=> !badC i (chr n i))=true:=by
     rw[List.all_eq_true];intro j hj;rw[ha j (List.mem_range.1 hj)];rfl
    rw[this,Bool.true_and]
   rw[e];have e2:decide ((n.length:Int)≤32)=decide (n.length≤32):=by rw[decide_eq_decide];omega
   clear ha hR e;repeat' first|simp only[go_sem,seval]|refine sB ?_|(first|apply pX|apply bX)<;>intro hc|refine⟨oD,?_⟩|exact oD|fail
   all_goals simp_all
theorem bases_ok (k:Key):EvP Tryz.prog 43 [k.pv] (.fc 99 [] [.pt k.pv 0]):=by
 unfold Key.pv;refine eW Tryz.call43 Tryz.func43 ?_;repeat' first|simp only[go_sem,seval]|refine sB ?_|(first|apply pX|apply bX)<;>intro hc|refine⟨oD,?_⟩|exact oD|fail
def bOf:List PV→Bytes
 |[_, .s b]=>b
 | _=>[]
def nOf:List PV→Int
 |[.i _ n,_]=>n
 | _=>0
theorem bases_form (k:Key): ∀y∈k.bases,∃n b,y=bas n b:=by
 intro y hy;simp only[Key.bases,List.mem_cons,List.mem_map]at hy;rcases hy with rfl|rfl|rfl|rfl|⟨b,-,rfl⟩<;>exact⟨_,_,rfl⟩
theorem bases_len (k:Key): ∀y∈k.bases,y.length=2:=by
 intro y hy;obtain⟨n,b,rfl⟩:=bases_form k y hy;rfl
def kBad (m:Bytes) (y:List PV):Bool:= !rHas m [] (bOf y)||(nOf y==2&&(bOf y==[1]))
def keyE (pe:Int) (k:Key):Int:=if pe≠0 then pe else if !(validN k.m&&validN k.o)then 3 else if !(k.bases.all fun y=>validN (bOf y))then 3 else if !nameB k.name then 1
 else if !(k.o==[])||decide (pwE k.m≠0)then 13 else if k.r.length<2∨k.r.length>18 then 6 else if k.bases.any (kBad k.m)then 13 else 0
theorem any_mid {α:Type} {p:α→Bool} {l a:List α} {y:α} {ys:List α} (h:l=a++y::ys) (hy:p y=true):l.any p=true:=by
 rw[h];simp[hy]
theorem any_snoc {α:Type} {p:α→Bool} {a:List α} {y:α} (h:a.any p=false) (hy:p y=false):(a++[y]).any p=false:=by simp[h,hy]
theorem all_mid {α:Type} {p:α→Bool} {l a:List α} {y:α} {ys:List α} (h:l=a++y::ys) (hy:p y=false):l.all p=false:=by
 rw[h];simp[hy]
theorem all_snoc {α:Type} {p:α→Bool} {a:List α} {y:α} (h:a.all p=true) (hy:p y=true):(a++[y]).all p=true:=by rw[List.all_append,h];simp[hy]
theorem mid_snoc {α:Type} {l a:List α} {y:α} {ys:List α} (h:l=a++y::ys):l=(a++[y])++ys:=by rw[h];simp
theorem keyCheck_ok (p:Par) (k:Key) (pe:Int) (hp:EvP Tryz.prog 32 [p.pv] (E pe)) (lm:k.m.length≤8) (ln:k.name.length≤60) (lr:k.r.length≤20):EvP Tryz.prog 19 [p.pv,k.pv] (E (keyE pe k)):=by
 have v1:=natValid k.m;have v2:=natValid k.o;have hb:=bases_ok k;have hnm:=isName_ok k.name ln;have hpw:=pwCheck_ok k.m;have hit:=bases_it k (by omega)
 have hbl:=bases_len k;have hbf:=bases_form k;have hhas:=pwHas_ok lm;have hE: ∀e,keyE pe k=e→EvP Tryz.prog 19 [p.pv,k.pv] (E e)→EvP Tryz.prog 19 [p.pv,k.pv] (E (keyE pe k)):=fun e h g=>by rw[h];exact g
 by_cases h0:pe=0
 case neg=>
  refine hE pe (by simp[keyE,h0]) ?_
  unfold Par.pv Key.pv at*;refine eW Tryz.call19 Tryz.func19 ?_;repeat' first|simp only[go_sem,seval]|refine cP hp ?_|refine sB ?_|(first|apply pX|apply bX)<;>intro hc|refine⟨oD,?_⟩|exact oD|fail
 subst h0
 by_cases hv:validN k.m=true∧validN k.o=true
 case neg=>
  refine hE 3 (by
   have:(validN k.m&&validN k.o)=false:=by (rw[Bool.eq_false_iff];intro g;simp at g;exact hv g)
   simp[keyE,this]) ?_
  generalize validN k.m=b1 at*;generalize validN k.o=b2 at*;unfold Par.pv Key.pv at*;refine eW Tryz.call19 Tryz.func19 ?_;repeat' first|simp only[go_sem,seval]|refine cP hp ?_|refine cP v1 ?_|refine cP v2 ?_|refine sB ?_|(first|apply pX|apply bX)<;>intro hc|refine⟨oD,?_⟩|exact oD|fail
  all_goals simp_all
 obtain⟨hm,ho⟩:=hv;rw[hm]at v1;rw[ho]at v2;clear hE;unfold keyE;rw[hm,ho,if_neg (by simp),if_neg (by simp)]
 unfold Par.pv at*;have hkp:k.pv= .agg [.s k.name, .s k.m, .s k.o, .s k.z, .s k.s, .sl (k.r.map .s), .s k.u, .s k.h]:=rfl;rw[hkp]at hb hit⊢;clear hkp;generalize k.bases=bs at*;obtain⟨name,m,o,z,s,r,u,h⟩:=k;simp only at*;refine eW Tryz.call19 Tryz.func19 ?_;repeat' first|simp only[go_sem,seval]|refine cP hp ?_|refine cP v1 ?_|refine cP v2 ?_|refine cP hb ?_|(refine CW_rng hit rfl hbl ?_)|refine sB ?_|(first|apply pX|apply bX)<;>intro hc|refine⟨oD,?_⟩|exact oD|fail
 refine rg_run (α:=Unit) (fun _=>⟨[(3, .p 1001 0 0),(4, .p 1002 0 0)],[(1001,⟨0,[.v (.s name), .v (.s m), .v (.s o), .v (.s z), .v (.s s), .v (.sl (r.map .s)), .v (.s u), .v (.s h)],false,none⟩),(1002,⟨0,[.v (E 0)],false,some 46⟩)],_⟩) (fun ys _=> ∃pre,bs=pre++ys∧pre.all (fun y=>validN (bOf y))=true) () (fun _=>Nat.le_refl _) ⟨[],rfl,rfl⟩ ?_ ?_ ?_
 ·exact lE
 ·rintro-⟨pre,hpre,hall⟩;rw[List.append_nil]at hpre;subst hpre;rw[hall,if_neg (by simp)]
  by_cases hn:nameB name=true
  case neg=>
   have hn:nameB name=false:=by simpa using hn
   rw[hn]at hnm⊢;repeat' first|simp only[go_sem,seval]|refine cP hnm ?_|refine sB ?_|(first|apply pX|apply bX)<;>intro hc|refine⟨oD,?_⟩|exact oD|fail
  rw[hn]at hnm⊢;rw[if_neg (by simp)]
  by_cases h1:o=[]
  case neg=>
   have h1:(o==([]:Bytes))=false:=by simpa using h1
   rw[h1,if_pos (by simp)]
   have h1':(o !=([]:Bytes))=true:=by simp[bne,h1]
   repeat' first|simp only[go_sem,seval,h1,h1']|refine cP hnm ?_|refine sB ?_|(first|apply pX|apply bX)<;>intro hc|refine⟨oD,?_⟩|exact oD|fail
  subst h1;rw[nn]
  by_cases h2:pwE m=0
  case neg=>
   rw[if_pos (by simp[h2])]
   repeat' first|simp only[go_sem,seval,nn]|refine cP hnm ?_|refine cP hpw ?_|refine sB ?_|(first|apply pX|apply bX)<;>intro hc|refine⟨oD,?_⟩|exact oD|fail
   all_goals first|(exact absurd (by assumption) h2)|skip
  rw[h2]at hpw;rw[if_neg (by simp[h2])]
  by_cases h3:r.length<2∨r.length>18
  case pos=>
   rw[if_pos h3];repeat' first|simp only[go_sem,seval,nn]|refine cP hnm ?_|refine cP hpw ?_|refine sB ?_|(first|apply pX|apply bX)<;>intro hc|refine⟨oD,?_⟩|exact oD|fail
  rw[if_neg h3];repeat' first|simp only[go_sem,seval,nn]|refine cP hnm ?_|refine cP hpw ?_|refine cP hb ?_|(refine CW_rng hit rfl hbl ?_)|refine sB ?_|(first|apply pX|apply bX)<;>intro hc|refine⟨oD,?_⟩|exact oD|fail
  refine rg_run (α:=Unit) (fun _=>⟨[(3, .p 1001 0 0),(4, .p 1002 0 0)],[(1001,⟨0,[.v (.s name), .v (.s m), .v (.s []), .v (.s z), .v (.s s), .v (.sl (r.map .s)), .v (.s u), .v (.s h)],false,none⟩),(1002,⟨0,[.v (E 0)],false,some 46⟩)],_⟩) (fun ys _=> ∃pre,bs=pre++ys∧pre.any (kBad m)=false) () (fun _=>Nat.le_refl _) ⟨[],rfl,rfl⟩ ?_ ?_ ?_
  ·exact lE
  ·rintro-⟨pre,hpre,hany⟩;rw[List.append_nil]at hpre;subst hpre;rw[hany,if_neg (by simp)]
   repeat' first|simp only[go_sem,seval]|refine sB ?_|(first|apply pX|apply bX)<;>intro hc|refine⟨oD,?_⟩|exact oD|fail
  ·rintro y ys-⟨pre,hpre,hany⟩ R hR;obtain⟨n,b,rfl⟩:=hbf y (by rw[hpre];simp)
   have hb1:=hhas b;have hbd:kBad m (bas n b)=true→bs.any (kBad m)=true:=any_mid hpre;have hgo:kBad m (bas n b)=false→ ∀s',_→R s':=fun g=>hR () ⟨_,mid_snoc hpre,any_snoc hany g⟩
   have e1:kBad m (bas n b)=(!rHas m [] b||(n==2&&(b==[1]))):=rfl;rw[e1]at hbd hgo;clear e1 hR;generalize rHas m [] b=b1 at*;repeat' first|simp only[go_sem,seval,bas]|refine cP hb1 ?_|refine cP Of1 ?_|refine sB ?_|(first|apply pX|apply bX)<;>intro hc|refine⟨oD,?_⟩|exact oD|fail
   all_goals first
    |(rw[hbd (by simp_all),if_pos rfl];done)
    |(refine hgo (by simp_all) _ ?_;(refine AS.Le.of (by first|decide|omega) ?_ ?_<;>simp[LeT,LeH,tget,hget,AV.bd,AV.bd.bdL,u8,bd_cellsOf,bcells_bd,icells_bd]);done)
    |fail
 ·rintro y ys-⟨pre,hpre,hall⟩ R hR;obtain⟨n,b,rfl⟩:=hbf y (by rw[hpre];simp)
  have vb:=natValid b;have hbd:validN b=false→bs.all (fun y=>validN (bOf y))=false:=all_mid (p:=fun y=>validN (bOf y)) hpre
  have hgo:validN b=true→ ∀s',_→R s':=fun g=>hR () ⟨_,mid_snoc hpre,all_snoc (p:=fun y=>validN (bOf y)) hall g⟩
  generalize validN b=b1 at*;repeat' first|simp only[go_sem,seval,bas]|refine cP vb ?_|refine sB ?_|(first|apply pX|apply bX)<;>intro hc|refine⟨oD,?_⟩|exact oD|fail
  all_goals first
   |(rw[hbd (by simp_all),if_pos (by simp)];done)
   |(refine hgo (by simp_all) _ ?_;(refine AS.Le.of (by first|decide|omega) ?_ ?_<;>simp[LeT,LeH,tget,hget,AV.bd,AV.bd.bdL,u8,bd_cellsOf,bcells_bd,icells_bd]);done)
   |fail
def fBad (m o p q:Bytes) (y:List PV):Bool:= !(decide (elE m o p q (bOf y)=0)&&(if nOf y==0 then sqB p q (bOf y)else genB p q (bOf y)))||decide (elE m o p q (bOf y)≠0)
def fitsE (ke:Int) (k:Key) (p q:Bytes):Int:=if ke≠0 then ke else if rCheckE k.m k.o p q≠0 then rCheckE k.m k.o p q else if k.bases.any (fBad k.m k.o p q)then 13 else 0
theorem Fits_ok (pa:Par) (k:Key) (p q:Bytes) (ke:Int) (hk:EvP Tryz.prog 19 [pa.pv,k.pv] (E ke)) (lm:k.m.length≤8) (lr:k.r.length≤20):EvP Tryz.prog 18 [pa.pv,k.pv,G p q] (E (fitsE ke k p q)):=by
 have hb:=bases_ok k;have hit:=bases_it k (by omega)
 have hbl:=bases_len k;have hbf:=bases_form k;have hrc:=rCheck_ok k.m k.o p q;have hsq:=IsSquare_ok lm k.o p q;have hge:=IsGenerator_ok lm k.o p q;unfold fitsE;unfold Par.pv at*;have hkp:k.pv= .agg [.s k.name, .s k.m, .s k.o, .s k.z, .s k.s, .sl (k.r.map .s), .s k.u, .s k.h]:=rfl;rw[hkp]at hb hit hk⊢;clear hkp;generalize k.bases=bs at*;obtain⟨name,m,o,z,s,r,u,h⟩:=k;simp only at*
 by_cases h0:ke=0
 case neg=>
  rw[if_pos h0];refine eW Tryz.call18 Tryz.func18 ?_;repeat' first|simp only[go_sem,seval]|refine cP hk ?_|refine sB ?_|(first|apply pX|apply bX)<;>intro hc|refine⟨oD,?_⟩|exact oD|fail
 subst h0;rw[if_neg (by simp)]
 by_cases h1:rCheckE m o p q=0
 case neg=>
  rw[if_pos h1];generalize rCheckE m o p q=ce at*;refine eW Tryz.call18 Tryz.func18 ?_;repeat' first|simp only[go_sem,seval]|refine cP hk ?_|refine cP hrc ?_|refine sB ?_|(first|apply pX|apply bX)<;>intro hc|refine⟨oD,?_⟩|exact oD|fail
 rw[if_neg (by simp[h1])]
 rw[h1]at hrc;refine eW Tryz.call18 Tryz.func18 ?_;repeat' first|simp only[go_sem,seval]|refine cP hk ?_|refine cP hrc ?_|refine cP hb ?_|(refine CW_rng hit rfl hbl ?_)|refine sB ?_|(first|apply pX|apply bX)<;>intro hc|refine⟨oD,?_⟩|exact oD|fail
 refine rg_run (α:=Unit) (fun _=>⟨[(4, .p 1001 0 0),(5, .p 1002 0 0),(6, .p 1003 0 0)],[(1001,⟨0,[.v (.s name), .v (.s m), .v (.s o), .v (.s z), .v (.s s), .v (.sl (r.map .s)), .v (.s u), .v (.s h)],false,none⟩),(1002,⟨0,[.v (.s p), .v (.s q)],false,none⟩),(1003,⟨0,[.v (E 0)],false,some 46⟩)],_⟩) (fun ys _=> ∃pre,bs=pre++ys∧pre.any (fBad m o p q)=false) () (fun _=>Nat.le_refl _) ⟨[],rfl,rfl⟩ ?_ ?_ ?_
 ·exact lE
 ·rintro-⟨pre,hpre,hany⟩;rw[List.append_nil]at hpre;subst hpre;rw[hany,if_neg (by simp)]
  repeat' first|simp only[go_sem,seval]|refine sB ?_|(first|apply pX|apply bX)<;>intro hc|refine⟨oD,?_⟩|exact oD|fail
 ·rintro y ys-⟨pre,hpre,hany⟩ R hR;obtain⟨n,b,rfl⟩:=hbf y (by rw[hpre];simp)
  have hs:=hsq b;have hg:=hge b;have hbd:fBad m o p q (bas n b)=true→bs.any (fBad m o p q)=true:=any_mid hpre;have hgo:fBad m o p q (bas n b)=false→ ∀s',_→R s':=fun g=>hR () ⟨_,mid_snoc hpre,any_snoc hany g⟩
  have e1:fBad m o p q (bas n b)=(!(decide (elE m o p q b=0)&&(if n==0 then sqB p q b else genB p q b))||decide (elE m o p q b≠0)):=rfl
  rw[e1]at hbd hgo;clear e1 hR hsq hge;generalize sqB p q b=b1 at*;generalize genB p q b=b2 at*;generalize elE m o p q b=ee at*;repeat' first|simp only[go_sem,seval,bas]|refine cP hs ?_|refine cP hg ?_|refine sB ?_|(first|apply pX|apply bX)<;>intro hc|refine⟨oD,?_⟩|exact oD|fail
  all_goals first
   |(rw[hbd (by clear hbd hgo;rcases Classical.em (ee=0)with he|he<;>simp_all),if_pos rfl];done)
   |(refine hgo (by clear hbd hgo;rcases Classical.em (ee=0)with he|he<;>simp_all) _ ?_;(refine AS.Le.of (by first|decide|omega) ?_ ?_<;>simp[LeT,LeH,tget,hget,AV.bd,AV.bd.bdL,u8,bd_cellsOf,bcells_bd,icells_bd]);done)
   |skip
end Go.Proofs.YtmledjfbgjnknaaGreatDoor
