/-
  Part of the proof, part 32. Own work.
-/
import Derived.Test.YtmledjfbgjnknaaGreatDoorM31
import Derived.Test.YtmledjfbgjnknaaGreatDoorM28
set_option linter.all false
namespace Go.Proofs.YtmledjfbgjnknaaGreatDoor
open Go Go.Dom Go.Num
set_option maxRecDepth 100000
set_option maxHeartbeats 16000000
theorem rName_ok (n:Bytes) (hn:n.length≤60):EvP Tryz.prog 63 [.s n] (.b (nameB n)):=by
 refine eW Tryz.call63 Tryz.func63 ?_;repeat' first|simp only[go_sem,seval]|refine sB ?_|(first|apply pX|apply bX)<;>intro hc|refine⟨oD,?_⟩|exact oD|fail
 refine loop_run (α:=Nat) (fun i=>n.length-i) (fun i=>⟨[(0, .v (.s n)),(3, .v (.i .i64 (i:Nat)))],[],_⟩) (fun i=>i≤n.length∧ ∀j,j<i→badC j (chr n j)=false) 0 (fun _=>Nat.le_refl _) ⟨Nat.zero_le _,fun j hj=>by omega⟩ ?_ ?_
 ·exact lE
 ·rintro i ⟨hi,ha⟩ R hR
  by_cases hlt:i<n.length
  ·have hlt':(i:Int)<n.length:=by omega
   have hbad:badC i (chr n i)=true→nameB n=false:=by
    intro h;unfold nameB;have:(List.range n.length).all (fun i=> !badC i (chr n i))=false:=by
     rw[Bool.eq_false_iff];intro g;have:=List.all_eq_true.1 g i (List.mem_range.2 hlt);rw[h]at this;cases this
    rw[this];rfl
   have hgo:badC i (chr n i)=false→ ∀s',(AS.mk [(0, .v (.s n)),(3, .v (.i .i64 ((i+1:Nat):Int)))] [] 1002).Le s'→R s':=by
    intro h s' hs;refine hR (i+1) ⟨by omega,fun j hj=> ?_⟩ (by omega) s' hs
    by_cases e:j=i
    ·subst e;exact h
    ·exact ha j (by omega)
   clear hR ha;obtain⟨c,hcc⟩: ∃c,chr n i=c:=⟨_,rfl⟩;have hcd:((n.getD i 0).toNat:Int)=c:=hcc;have h0:0≤c∧c<256:=by rw[←hcd];have:=(n.getD i 0).toNat_lt;omega
   rw[hcc]at hbad hgo;unfold badC at hbad hgo;obtain⟨b1,h1⟩: ∃b,decide (c≥97)=b:=⟨_,rfl⟩;obtain⟨b2,h2⟩: ∃b,decide (c≤122)=b:=⟨_,rfl⟩;obtain⟨b3,h3⟩: ∃b,decide (c≥65)=b:=⟨_,rfl⟩;obtain⟨b4,h4⟩: ∃b,decide (c≤90)=b:=⟨_,rfl⟩;obtain⟨b5,h5⟩: ∃b,((i:Int)==0)=b:=⟨_,rfl⟩;obtain⟨b6,h6⟩: ∃b,(c !=95)=b:=⟨_,rfl⟩;obtain⟨b7,h7⟩: ∃b,decide (c<48)=b:=⟨_,rfl⟩;obtain⟨b8,h8⟩: ∃b,decide (c>57)=b:=⟨_,rfl⟩;rw[h1,h2,h3,h4,h5,h6,h7,h8]at hbad hgo;have e1:decide ((i:Int)<(n.length:Int))=true:=decide_eq_true hlt';repeat' first|simp only[go_sem,seval,hcd,h1,h2,h3,h4,h5,h6,h7,h8,e1]|refine sB ?_|(first|apply pX|apply bX)<;>intro hc|refine⟨oD,?_⟩|exact oD|fail
   all_goals clear h1 h2 h3 h4 h5 h6 h7 h8 hcd hcc h0
   all_goals try simp only[Bool.not_eq_true',Bool.not_eq_false']at*
   all_goals subst_vars
   all_goals first
     |(refine hgo rfl _ ?_;(refine AS.Le.of (by first|decide|omega) ?_ ?_<;>simp[LeT,LeH,tget,hget,AV.bd,AV.bd.bdL,u8,bd_cellsOf,bcells_bd,icells_bd]);done)
     |(rw[hbad rfl];done)
     |(cases b6<;>first|(simp at hc;done)|(refine hgo rfl _ ?_;(refine AS.Le.of (by first|decide|omega) ?_ ?_<;>simp[LeT,LeH,tget,hget,AV.bd,AV.bd.bdL,u8,bd_cellsOf,bcells_bd,icells_bd]);done)|(rw[hbad rfl];done)|fail)
     |fail
  ·obtain rfl:i=n.length:=by omega
   have e:nameB n=(!(n==[])&&decide (n.length≤32)):=by
    unfold nameB;have:(List.range n.length).all (fun i=> !badC i (chr n i))=true:=by
     rw[List.all_eq_true];intro j hj;rw[ha j (List.mem_range.1 hj)];rfl
    rw[this,Bool.true_and]
   rw[e];have e2:decide ((n.length:Int)≤32)=decide (n.length≤32):=by rw[decide_eq_decide];omega
   clear ha hR e;repeat' first|simp only[go_sem,seval]|refine sB ?_|(first|apply pX|apply bX)<;>intro hc|refine⟨oD,?_⟩|exact oD|fail
   all_goals simp_all
theorem last_mod2 {m:Bytes} (hm:m≠[]):(m.getD (m.length-1) 0).toNat%2=num m%2:=by
 obtain⟨r,c,rfl⟩: ∃r c,m=r++[c]:=⟨_,_,(List.dropLast_concat_getLast hm).symm⟩;rw[num_snoc];have:(r++[c]).getD ((r++[c]).length-1) 0=c:=by simp[List.getD_eq_getElem?_getD]
 rw[this];omega
theorem r13Check_ok {m:Bytes} (lm:m.length≤8) {o:Bytes} (lo:o.length≤8):EvP Tryz.prog 64 [G m o] (E (gE m o)):=by
 have v1:=rValid_ok m;have v2:=rValid_ok o;unfold gE
 by_cases hv:validN m=true∧validN o=true
 case neg=>
  have:(validN m&&validN o)=false:=by rw[Bool.eq_false_iff];intro g;simp at g;exact hv g
  rw[this];generalize validN m=b1 at*;generalize validN o=b2 at*;refine eW Tryz.call64 Tryz.func64 ?_;repeat' first|simp only[go_sem,seval]|refine cP v1 ?_|refine cP v2 ?_|refine sB ?_|(first|apply pX|apply bX)<;>intro hc|refine⟨oD,?_⟩|exact oD|fail
  all_goals simp_all
 obtain⟨vm,vo⟩:=hv;have nm:=num8 lm;have no:=num8 lo;rw[vm]at v1;rw[vo]at v2
 by_cases ho:o=[]
 ·subst ho;have e0:(if !(validN m&&validN [])then(3:Int)else if(([]:Bytes)==[])then(if goodB m []then 0 else 13)else if num m≤1∨num []≤1∨(num m-1)%num []≠0 then 13 else 0)=if goodB m []then 0 else 13:=by
   rw[vm];rfl
  rw[e0]
  by_cases hm:m=[]
  ·subst hm;have:goodB [] []=false:=by decide
   rw[this];refine eW Tryz.call64 Tryz.func64 ?_;repeat' first|simp only[go_sem,seval,nn]|refine cP v1 ?_|refine cP v2 ?_|refine sB ?_|(first|apply pX|apply bX)<;>intro hc|refine⟨oD,?_⟩|exact oD|fail
  have hb:(m==([]:Bytes))=false:=by simpa using hm
  have hl:=last_mod2 hm;have hlen:0<m.length:=List.length_pos_iff.2 hm;have hix: ∀ _:True,((m.length:Int)-1).toNat=m.length-1:=fun _=>by omega
  have hmod: ∀c:UInt8,((c.toNat:Nat):Int).tmod 2=((c.toNat%2:Nat):Int):=fun c=>rfl
  have ho8:=rOrder_ok (a:=m) (b:=[8]) (canon_of vm) (.inr (by decide)) (by omega) (by decide)
  rw[show num ([8]:Bytes)=8 from rfl]at ho8
  have hle: ∀ _:True,decide (cmpN (num m) 8≤0)= !decide (8<num m):=fun _=>by
   rw[Bool.eq_iff_iff];simp only[decide_eq_true_eq,Bool.not_eq_true',decide_eq_false_iff_not];unfold cmpN;split<;>(try split)<;>omega
  have hg:goodB m []=(decide (num m%2=1)&&decide (8<num m)):=by
   unfold goodB;rw[vm,Nat.testBit_eq_decide_div_mod_eq,Nat.pow_zero,Nat.div_one];rfl
  rw[hg,←hl];generalize cmpN (num m) 8=cm at*;obtain⟨c,hcc⟩: ∃c,c=m.getD (m.length-1) 0:=⟨_,rfl⟩;rw[←hcc];clear hl hg e0;refine eW Tryz.call64 Tryz.func64 ?_;repeat' first|simp only[go_sem,seval,nn,hb,hix trivial,←hcc,hmod,hle trivial]|refine cP v1 ?_|refine cP v2 ?_|refine cP ho8 ?_|refine sB ?_|(first|apply pX|apply bX)<;>intro hc|refine⟨oD,?_⟩|exact oD|fail
  all_goals first|(simp_all;done)|(simp_all;omega)|skip
 have hb:(o==([]:Bytes))=false:=by simpa using ho
 have hop:num o≠0:=fun e=>ho ((num_zero vo).1 e)
 have e1:N (num m)= .s m:=congrArg PV.s (bts_of vm);have e2:N (num o)= .s o:=congrArg PV.s (bts_of vo);rw[vm,vo,hb];simp only[Bool.and_self,Bool.not_true,Bool.false_eq_true,if_false];have q0:(m==([]:Bytes))=decide (num m=0):=by
  have:=btsEq (num m) 0;rw[bts_of vm]at this;exact this
 have q1:(m==([1]:Bytes))=decide (num m=1):=by
  have:=btsEq (num m) 1;rw[bts_of vm]at this;exact this
 have q2:(o==([1]:Bytes))=decide (num o=1):=by
  have:=btsEq (num o) 1;rw[bts_of vo]at this;exact this
 by_cases hbad:num m=0∨num m=1∨num o=1
 ·rw[if_pos (by omega)]
  refine eW Tryz.call64 Tryz.func64 ?_;repeat' first|simp only[go_sem,seval,hb,q0,q1,q2]|refine cP v1 ?_|refine cP v2 ?_|refine sB ?_|(first|apply pX|apply bX)<;>intro hc|refine⟨oD,?_⟩|exact oD|fail
  all_goals (exfalso;simp_all)
 have h1:=rMinus_ok m [1] (by omega) (by decide) (show 1≤num m by omega)
 rw[show num ([1]:Bytes)=1 from rfl]at h1
 have h2:=rOver_ok (a:=bts (num m-1)) (b:=o) (bts_canon _) (canon_of vo) (by omega) (by
  have:=lN (show num m-1<18446744073709551616 by omega)
  omega) (by omega)
 rw[num_bts]at h2;have hz: ∀ _:True,(bts ((num m-1)%num o)==([]:Bytes))=decide ((num m-1)%num o=0):=fun _=>by
  rw[Bool.eq_iff_iff];simp[bts_nil]
 have t0:decide (num m=0)=false:=decide_eq_false (by omega)
 have t1:decide (num m=1)=false:=decide_eq_false (by omega)
 have t2:decide (num o=1)=false:=decide_eq_false (by omega)
 have ei:(if num m≤1∨num o≤1∨(num m-1)%num o≠0 then(13:Int)else 0)=if(num m-1)%num o=0 then 0 else 13:=by
  by_cases g:(num m-1)%num o=0
  ·rw[if_neg (by omega),if_pos g]
  ·rw[if_pos (by omega),if_neg g]
 rw[ei];refine eW Tryz.call64 Tryz.func64 ?_;repeat' first|simp only[go_sem,seval,hb,q0,q1,q2,t0,t1,t2,hz trivial]|refine cP v1 ?_|refine cP v2 ?_|refine cP h1 ?_|refine cP h2 ?_|refine sB ?_|(first|apply pX|apply bX)<;>intro hc|refine⟨oD,?_⟩|exact oD|fail
 all_goals simp_all
theorem r13has_ok {m:Bytes} (lm:m.length≤8) (o:Bytes) {x:Bytes} (hE:gE m o=0) (vx:validN x=true):EvP Tryz.prog 155 [G m o, .s x] (.b (gHas m o x)):=by
 by_cases ho:o=[]
 ·subst ho;obtain⟨vm,-,m1,hr,-⟩:=gE_m hE;have hg:=hr rfl;have lx:=len_of vx;have hor:=rOrder_ok (canon_of vx) (canon_of vm) (by omega) (by omega)
  have hcm:=rCommonN (num_of vx) (num_of vm);rw[N_of vx,N_of vm]at hcm;have hlt: ∀ _:True,decide (cmpN (num x) (num m)<0)=decide (num x<num m):=fun _=>dLt _ _
  have e:gHas m [] x=(!(x==[])&&decide (num x<num m)&&decide (Nat.gcd (num x) (num m)=1)):=by
   simp[gHas,rHas,hg,vx]
  rw[e];generalize cmpN (num x) (num m)=cm at*;refine eW Tryz.call155 Tryz.func155 ?_;repeat' first|simp only[go_sem,seval,nn,hlt trivial,oneF]|refine cP hor ?_|refine cP hcm ?_|refine sB ?_|(first|apply pX|apply bX)<;>intro hc|refine⟨oD,?_⟩|exact oD|fail
  all_goals simp_all
  all_goals (intros;omega)
 ·have hb:(o==([]:Bytes))=false:=by simpa using ho
  have h:=r9Has_ok lm o x;unfold gHas;rw[hb];simp only[Bool.false_eq_true,if_false];refine eW Tryz.call155 Tryz.func155 ?_;repeat' first|simp only[go_sem,seval,hb]|refine cP h ?_|refine sB ?_|(first|apply pX|apply bX)<;>intro hc|refine⟨oD,?_⟩|exact oD|fail
theorem r13Has_ok {m:Bytes} (lm:m.length≤8) {o:Bytes} (lo:o.length≤8) (x:Bytes):EvP Tryz.prog 65 [G m o, .s x] (.b (gIn m o x)):=by
 have h1:=r13Check_ok lm lo;have hv:=rValid_ok x
 by_cases hE:gE m o=0
 ·rw[hE]at h1
  by_cases vx:validN x=true
  ·have h2:=r13has_ok lm o hE vx;rw[vx]at hv;unfold gIn;rw[hE];generalize gHas m o x=b at*;refine eW Tryz.call65 Tryz.func65 ?_;repeat' first|simp only[go_sem,seval]|refine cP h1 ?_|refine cP hv ?_|refine cP h2 ?_|refine sB ?_|(first|apply pX|apply bX)<;>intro hc|refine⟨oD,?_⟩|exact oD|fail
   all_goals simp_all
  ·have vx:validN x=false:=by simpa using vx
   rw[vx]at hv;have:gIn m o x=false:=by
    rw[Bool.eq_false_iff];intro g;simp only[gIn,Bool.and_eq_true]at g;have:=((gHas_iff hE).1 g.2).1;rw[vx]at this;cases this
   rw[this];refine eW Tryz.call65 Tryz.func65 ?_;repeat' first|simp only[go_sem,seval]|refine cP h1 ?_|refine cP hv ?_|refine sB ?_|(first|apply pX|apply bX)<;>intro hc|refine⟨oD,?_⟩|exact oD|fail
 ·have:gIn m o x=false:=by simp[gIn,hE]
  rw[this];generalize gE m o=z at*;refine eW Tryz.call65 Tryz.func65 ?_;repeat' first|simp only[go_sem,seval]|refine cP h1 ?_|refine sB ?_|(first|apply pX|apply bX)<;>intro hc|refine⟨oD,?_⟩|exact oD|fail
  all_goals simp_all
theorem r13raw_ok {m:Bytes} (lm:m.length≤8) {o:Bytes} {x:Nat} {ng:Bool} {e:Bytes} (hE:gE m o=0) (hx:GP m o x) (he:validN e=true) (hz:(ng&&e==[])=false):EvP Tryz.prog 375 [G m o,N x, .agg [.b ng, .s e]] (N (powZ (num m) x ng (num e))):=by
 obtain⟨vm,-,m1,-,-⟩:=gE_m hE;have hp:=rPower_ok (m:=num m) hx.lt he hz (num8 lm) hx.cop;rw[N_of vm]at hp;refine eW Tryz.call375 Tryz.func375 ?_;repeat' first|simp only[go_sem,seval]|refine cP hp ?_|refine sB ?_|(first|apply pX|apply bX)<;>intro hc|refine⟨oD,?_⟩|exact oD|fail
noncomputable def prodF (M:Nat):Nat→List (Nat×Bool×Bytes)→Nat
 |x,[]=>x
 |x,(a,ng,e)::r=>prodF M (x*powZ M a ng (num e)%M) r
def exG (p:Nat×Bool×Bytes):PV:= .agg [.b p.2.1, .s p.2.2]
theorem r13Product_ok {m:Bytes} (lm:m.length≤8) {o:Bytes} (lo:o.length≤8) (hE:gE m o=0) (l:List (Nat×Bool×Bytes)) (hl:l.length<1000000) (h: ∀p∈l,GP m o p.1∧validN p.2.2=true∧(p.2.1&&p.2.2==[])=false):EvP Tryz.prog 285 [G m o, .sl (l.map fun p=>N p.1), .sl (l.map exG)] (.tup [N (prodF (num m) 1 l),E 0]):=by
 obtain⟨vm,-,m1,-,-⟩:=gE_m hE;have nm:=num8 lm;have hck:=r13Check_ok lm lo;rw[hE]at hck;have d0:Nat×Bool×Bytes:=(0,false,[]);have l1:(l.map fun p=>N p.1).length=l.length:=List.length_map ..
 have l2:(l.map exG).length=l.length:=List.length_map ..;have g1: ∀{i:Nat},i<l.length→(l.map fun p=>N p.1).getD i .fn0=N (l.getD i d0).1:=fun hi=>getD_map (fun p=>N p.1) l d0 hi
 have g2: ∀{i:Nat},i<l.length→(l.map exG).getD i .fn0=exG (l.getD i d0):=fun hi=>getD_map exG l d0 hi
 refine eW Tryz.call285 Tryz.func285 ?_;repeat' first|simp only[go_sem,seval]|refine sB ?_|(first|apply pX|apply bX)<;>intro hc|refine⟨oD,?_⟩|exact oD|fail
 refine loop_run (α:=Nat) (fun i=>l.length-i) (fun i=>⟨[(1, .v (.sl (l.map fun p=>N p.1))),(2, .v (.sl (l.map exG))),(3, .p 1000 0 0),(8,E' i)],[(1000,⟨0,[.v (.s m), .v (.s o)],false,none⟩)],_⟩) (fun i=>i≤l.length) 0 (fun _=>Nat.le_refl _) (Nat.zero_le _) ?_ ?_
 ·exact lE
 ·intro i hi R hR
  by_cases hlt:i<l.length
  ·obtain⟨k1,k2,k3⟩:=h _ (mem_getD d0 hlt);have e1:=g1 hlt;have hv:=rValid_ok (bts (l.getD i d0).1);have:=k1.lt;rw[vN (show(l.getD i d0).1<18446744073709551616 by omega)]at hv
   clear k1 k2 k3 this;have hgo:=hR (i+1) (by omega) (by omega)
   repeat' first|simp only[go_sem,seval,l1,e1]|refine cP hv ?_|refine sB ?_|(first|apply pX|apply bX)<;>intro hc|refine⟨oD,?_⟩|exact oD|fail
   refine hgo _ ?_;exact lE
  ·obtain rfl:i=l.length:=by omega
   repeat' first|simp only[go_sem,seval,l1]|refine sB ?_|(first|apply pX|apply bX)<;>intro hc|refine⟨oD,?_⟩|exact oD|fail
   refine loop_run (α:=Nat) (fun i=>l.length-i) (fun i=>⟨[(1, .v (.sl (l.map fun p=>N p.1))),(2, .v (.sl (l.map exG))),(3, .p 1000 0 0),(9,E' i)],[(1000,⟨0,[.v (.s m), .v (.s o)],false,none⟩)],_⟩) (fun i=>i≤l.length) 0 (fun _=>Nat.le_refl _) (Nat.zero_le _) ?_ ?_
   ·exact lE
   ·intro i hi R hR
    by_cases hlt:i<l.length
    ·obtain⟨k1,k2,k3⟩:=h _ (mem_getD d0 hlt);have e1:=g2 hlt;have hv:=rIValid_ok (l.getD i d0).2.1 (l.getD i d0).2.2;rw[k2,k3]at hv;clear k1 k2 k3;have hgo:=hR (i+1) (by omega) (by omega)
     repeat' first|simp only[go_sem,seval,l2,e1,exG]|refine cP hv ?_|refine sB ?_|(first|apply pX|apply bX)<;>intro hc|refine⟨oD,?_⟩|exact oD|fail
     refine hgo _ ?_;exact lE
    ·obtain rfl:i=l.length:=by omega
     repeat' first|simp only[go_sem,seval,l1,l2]|refine cP hck ?_|refine sB ?_|(first|apply pX|apply bX)<;>intro hc|refine⟨oD,?_⟩|exact oD|fail
     refine loop_run (α:=Nat) (fun i=>l.length-i) (fun i=>⟨[(1, .v (.sl (l.map fun p=>N p.1))),(2, .v (.sl (l.map exG))),(3, .p 1000 0 0),(11,E' i)],[(1000,⟨0,[.v (.s m), .v (.s o)],false,none⟩)],_⟩) (fun i=>i≤l.length) 0 (fun _=>Nat.le_refl _) (Nat.zero_le _) ?_ ?_
     ·exact lE
     ·intro i hi R hR
      by_cases hlt:i<l.length
      ·obtain⟨k1,k2,k3⟩:=h _ (mem_getD d0 hlt);have e1:=g1 hlt;have hh:=k1.has hE lm;have hv:=r13has_ok lm o (x:=bts (l.getD i d0).1) hE ((gHas_iff hE).1 hh).1;rw[hh]at hv;clear k1 k2 k3 hh;have hgo:=hR (i+1) (by omega) (by omega)
       repeat' first|simp only[go_sem,seval,l1,e1]|refine cP hv ?_|refine sB ?_|(first|apply pX|apply bX)<;>intro hc|refine⟨oD,?_⟩|exact oD|fail
       refine hgo _ ?_;exact lE
      ·obtain rfl:i=l.length:=by omega
       repeat' first|simp only[go_sem,seval,l1]|refine sB ?_|(first|apply pX|apply bX)<;>intro hc|refine⟨oD,?_⟩|exact oD|fail
       refine loop_run (α:=Nat×Nat) (fun s=>l.length-s.1) (fun s=>⟨[(1, .v (.sl (l.map fun p=>N p.1))),(2, .v (.sl (l.map exG))),(3, .p 1000 0 0),(12, .v (N s.2)),(13,E' s.1)],[(1000,⟨0,[.v (.s m), .v (.s o)],false,none⟩)],_⟩) (fun s=>s.1≤l.length∧s.2<num m∧prodF (num m) s.2 (l.drop s.1)=prodF (num m) 1 l) (0,1) (fun _=>Nat.le_refl _) ⟨Nat.zero_le _,m1,rfl⟩ ?_ ?_
       ·(refine AS.Le.of (by first|decide|omega) ?_ ?_<;>simp[LeT,LeH,tget,hget,AV.bd,AV.bd.bdL,u8,bd_cellsOf,bcells_bd,icells_bd])
        all_goals rfl
       ·rintro⟨i,x⟩ ⟨hi,hx,hf⟩ R hR;simp only at hi hx hf
        by_cases hlt:i<l.length
        ·obtain⟨k1,k2,k3⟩:=h _ (mem_getD d0 hlt);have e1:=g1 hlt;have e2:=g2 hlt;rw[drop_getD d0 hlt]at hf;have hraw:=r13raw_ok lm hE k1 k2 k3;have hpl:powZ (num m) (l.getD i d0).1 (l.getD i d0).2.1 (num (l.getD i d0).2.2)<num m:=Nat.mod_lt _ (by omega)
         have hgo:=hR (i+1,x*powZ (num m) (l.getD i d0).1 (l.getD i d0).2.1 (num (l.getD i d0).2.2)%num m) ⟨by show i+1≤ _;omega,Nat.mod_lt _ (by omega),hf⟩ (by show l.length-(i+1)<l.length-i;omega)
         clear hf hR k1 k2 k3;generalize powZ (num m) (l.getD i d0).1 (l.getD i d0).2.1 (num (l.getD i d0).2.2)=y at*;have hmm:=rMulM (a:=x) (b:=y) (m:=num m) (by omega) (by omega) nm (by omega)
         rw[N_of vm]at hmm;repeat' first|simp only[go_sem,seval,l1,l2,e1,e2,exG]|refine cP hraw ?_|refine cP hmm ?_|refine sB ?_|(first|apply pX|apply bX)<;>intro hc|refine⟨oD,?_⟩|exact oD|fail
         refine hgo _ ?_;exact lE
        ·obtain rfl:i=l.length:=by omega
         rw[List.drop_length]at hf;simp only[prodF]at hf;rw[←hf];repeat' first|simp only[go_sem,seval,l1]|refine sB ?_|(first|apply pX|apply bX)<;>intro hc|refine⟨oD,?_⟩|exact oD|fail
theorem rformed_ok {s:Stm} (hs:StOK s):EvP Tryz.prog 282 [s.pv] (.b true):=by
 obtain⟨gs,vs,es⟩:=s;obtain⟨hg,hv,hq,ng,nv,ne⟩:=hs;simp only at hg hv hq ng nv ne;have l1:(gs.map gpv).length=gs.length:=List.length_map ..;have l2:(vs.map vpv).length=vs.length:=List.length_map ..;have l3:(es.map Eqn.pv).length=es.length:=List.length_map ..;unfold Stm.pv;simp only;refine eW Tryz.call282 Tryz.func282 ?_;repeat' first|simp only[go_sem,seval]|refine sB ?_|(first|apply pX|apply bX)<;>intro hc|refine⟨oD,?_⟩|exact oD|fail
 refine loop_run (α:=Nat) (fun i=>gs.length-i) (fun i=>⟨[(1, .p 1000 0 0),(3,E' i)],[(1000,⟨0,[.v (.sl (gs.map gpv)), .v (.sl (vs.map vpv)), .v (.sl (es.map Eqn.pv))],false,none⟩)],_⟩) (fun i=>i≤gs.length) 0 (fun _=>Nat.le_refl _) (Nat.zero_le _) ?_ ?_
 ·exact lE
 ·intro i hi R hR
  by_cases hlt:i<gs.length
  ·have e1:=getD_map gpv gs d0G hlt;have k:=hg _ (mem_getD d0G hlt);have hgo:=hR (i+1) (by omega) (by omega)
   obtain⟨x,hx⟩: ∃x,x=gs.getD i d0G:=⟨_,rfl⟩;rw[←hx]at e1 k;obtain⟨m,o⟩:=x;obtain⟨vm,vo,-⟩:=gE_m k.1;have v1:=rValid_ok m;have v2:=rValid_ok o;rw[vm]at v1;rw[vo]at v2;clear hR hx k vm vo;simp only[gpv]at e1;repeat' first|simp only[go_sem,seval,l1,e1]|refine cP v1 ?_|refine cP v2 ?_|refine sB ?_|(first|apply pX|apply bX)<;>intro hc|refine⟨oD,?_⟩|exact oD|fail
   refine hgo _ ?_;exact lE
  ·obtain rfl:i=gs.length:=by omega
   repeat' first|simp only[go_sem,seval,l1]|refine sB ?_|(first|apply pX|apply bX)<;>intro hc|refine⟨oD,?_⟩|exact oD|fail
   refine loop_run (α:=Nat) (fun i=>vs.length-i) (fun i=>⟨[(1, .p 1000 0 0),(4,E' i)],[(1000,⟨0,[.v (.sl (gs.map gpv)), .v (.sl (vs.map vpv)), .v (.sl (es.map Eqn.pv))],false,none⟩)],_⟩) (fun i=>i≤vs.length) 0 (fun _=>Nat.le_refl _) (Nat.zero_le _) ?_ ?_
   ·exact lE
   ·intro i hi R hR
    by_cases hlt:i<vs.length
    ·have e1:=getD_map vpv vs [] hlt;have k:=hv _ (mem_getD [] hlt);have hgo:=hR (i+1) (by omega) (by omega)
     obtain⟨x,hx⟩: ∃x,x=vs.getD i []:=⟨_,rfl⟩;rw[←hx]at e1 k;have v1:=rValid_ok x;rw[k.1]at v1;clear hR hx k;simp only[vpv]at e1;repeat' first|simp only[go_sem,seval,l2,e1]|refine cP v1 ?_|refine sB ?_|(first|apply pX|apply bX)<;>intro hc|refine⟨oD,?_⟩|exact oD|fail
     refine hgo _ ?_;exact lE
    ·obtain rfl:i=vs.length:=by omega
     repeat' first|simp only[go_sem,seval,l2]|refine sB ?_|(first|apply pX|apply bX)<;>intro hc|refine⟨oD,?_⟩|exact oD|fail
     refine loop_run (α:=Nat) (fun i=>es.length-i) (fun i=>⟨[(1, .p 1000 0 0),(5,E' i)],[(1000,⟨0,[.v (.sl (gs.map gpv)), .v (.sl (vs.map vpv)), .v (.sl (es.map Eqn.pv))],false,none⟩)],_⟩) (fun i=>i≤es.length) 0 (fun _=>Nat.le_refl _) (Nat.zero_le _) ?_ ?_
     ·exact lE
     ·intro i hi R hR
      by_cases hlt:i<es.length
      ·have e1:=getD_map Eqn.pv es d0Q hlt;obtain⟨q1,q2,q3,q4,q5⟩:=hq _ (mem_getD d0Q hlt);have hgo:=hR (i+1) (by omega) (by omega)
       obtain⟨x,hx⟩: ∃x,x=es.getD i d0Q:=⟨_,rfl⟩;rw[←hx]at e1 q1 q2 q3 q4 q5;obtain⟨gr,tg,ts⟩:=x;simp only at q1 q2 q3 q4 q5;have hgE:=(hg _ (mem_getD d0G (show gr.toNat<gs.length by omega))).1
       have v1:=rValid_ok tg;rw[gHas_valid hgE q3]at v1;have l4:(ts.map Trm.pv).length=ts.length:=List.length_map ..;simp only[Eqn.pv]at e1;clear hR hx q3;have hd1:decide (gr<0)=false:=decide_eq_false (by omega)
       have hd2:decide (gr≥(gs.length:Int))=false:=decide_eq_false (by omega)
       repeat' first|simp only[go_sem,seval,l1,l3,l4,e1,hd1,hd2]|refine cP v1 ?_|refine sB ?_|(first|apply pX|apply bX)<;>intro hc|refine⟨oD,?_⟩|exact oD|fail
       refine loop_run (α:=Nat) (fun i=>ts.length-i) (fun j=>⟨[(1, .p 1000 0 0),(5,E' i),(6, .p 1025 0 0),(7,E' j)],[(1000,⟨0,[.v (.sl (gs.map gpv)), .v (.sl (vs.map vpv)), .v (.sl (es.map Eqn.pv))],false,none⟩),(1025,⟨0,[.v (.i .i64 gr), .v (.s tg), .v (.sl (ts.map Trm.pv))],false,some 141⟩)],_⟩) (fun i=>i≤ts.length) 0 (fun _=>Nat.le_refl _) (Nat.zero_le _) ?_ ?_
       ·exact lE
       ·intro j hj R' hR'
        by_cases hjt:j<ts.length
        ·have e2:=getD_map Trm.pv ts d0T hjt;obtain⟨t1,t2,t3,t4⟩:=q5 _ (mem_getD d0T hjt);have hgo':=hR' (j+1) (by omega) (by omega)
         obtain⟨y,hy⟩: ∃y,y=ts.getD j d0T:=⟨_,rfl⟩;rw[←hy]at e2 t1 t2 t3 t4;obtain⟨b,v,n,a⟩:=y;simp only at t1 t2 t3 t4;have v2:=rValid_ok b;rw[gHas_valid hgE t3]at v2;have v3:=rIValid_ok n a;rw[show(validN a&& !(n&&a==[]))=true from t4]at v3
         simp only[Trm.pv]at e2;clear hR' hy t3 t4 q5;have hd3:decide (v<0)=false:=decide_eq_false (by omega)
         have hd4:decide (v≥(vs.length:Int))=false:=decide_eq_false (by omega)
         repeat' first|simp only[go_sem,seval,l2,l4,e2,hd3,hd4]|refine cP v2 ?_|refine cP v3 ?_|refine sB ?_|(first|apply pX|apply bX)<;>intro hc|refine⟨oD,?_⟩|exact oD|fail
         refine hgo' _ ?_;exact lE
        ·obtain rfl:j=ts.length:=by omega
         repeat' first|simp only[go_sem,seval,l3,l4]|refine sB ?_|(first|apply pX|apply bX)<;>intro hc|refine⟨oD,?_⟩|exact oD|fail
         refine hgo _ ?_;exact lE
      ·obtain rfl:i=es.length:=by omega
       repeat' first|simp only[go_sem,seval,l3]|refine sB ?_|(first|apply pX|apply bX)<;>intro hc|refine⟨oD,?_⟩|exact oD|fail
theorem rmany_ok {s:Stm} (hs:StOK s):EvP Tryz.prog 370 [s.pv] (.b false):=by
 obtain⟨gs,vs,es⟩:=s;obtain⟨hg,hv,hq,ng,nv,ne⟩:=hs;simp only at hg hv hq ng nv ne;have l1:(gs.map gpv).length=gs.length:=List.length_map ..;have l2:(vs.map vpv).length=vs.length:=List.length_map ..;have l3:(es.map Eqn.pv).length=es.length:=List.length_map ..;unfold Stm.pv;simp only;refine eW Tryz.call370 Tryz.func370 ?_;repeat' first|simp only[go_sem,seval]|refine sB ?_|(first|apply pX|apply bX)<;>intro hc|refine⟨oD,?_⟩|exact oD|fail
 refine loop_run (α:=Nat) (fun i=>es.length-i) (fun i=>⟨[(1, .p 1000 0 0),(3,E' i)],[(1000,⟨0,[.v (.sl (gs.map gpv)), .v (.sl (vs.map vpv)), .v (.sl (es.map Eqn.pv))],false,none⟩)],_⟩) (fun i=>i≤es.length) 0 (fun _=>Nat.le_refl _) (Nat.zero_le _) ?_ ?_
 ·exact lE
 ·intro i hi R hR
  by_cases hlt:i<es.length
  ·have e1:=getD_map Eqn.pv es d0Q hlt;have q4:=(hq _ (mem_getD d0Q hlt)).2.2.2.1;have hgo:=hR (i+1) (by omega) (by omega)
   obtain⟨x,hx⟩: ∃x,x=es.getD i d0Q:=⟨_,rfl⟩;rw[←hx]at e1 q4;obtain⟨gr,tg,ts⟩:=x;simp only at q4;have l4:(ts.map Trm.pv).length=ts.length:=List.length_map ..;simp only[Eqn.pv]at e1;clear hR hx;repeat' first|simp only[go_sem,seval,l3,l4,e1]|refine sB ?_|(first|apply pX|apply bX)<;>intro hc|refine⟨oD,?_⟩|exact oD|fail
   refine hgo _ ?_;exact lE
  ·obtain rfl:i=es.length:=by omega
   have hd:decide ((es.length:Int)>64)=false:=decide_eq_false (by omega)
   repeat' first|simp only[go_sem,seval,l1,l2,l3,hd]|refine sB ?_|(first|apply pX|apply bX)<;>intro hc|refine⟨oD,?_⟩|exact oD|fail
theorem relements_ok {s:Stm} (hs:StOK s):EvP Tryz.prog 371 [s.pv] (.b true):=by
 obtain⟨gs,vs,es⟩:=s;obtain⟨hg,hv,hq,ng,nv,ne⟩:=hs;simp only at hg hv hq ng nv ne;have l1:(gs.map gpv).length=gs.length:=List.length_map ..;have l3:(es.map Eqn.pv).length=es.length:=List.length_map ..;unfold Stm.pv;simp only;refine eW Tryz.call371 Tryz.func371 ?_;repeat' first|simp only[go_sem,seval]|refine sB ?_|(first|apply pX|apply bX)<;>intro hc|refine⟨oD,?_⟩|exact oD|fail
 refine loop_run (α:=Nat) (fun i=>gs.length-i) (fun i=>⟨[(1, .p 1000 0 0),(3,E' i)],[(1000,⟨0,[.v (.sl (gs.map gpv)), .v (.sl (vs.map vpv)), .v (.sl (es.map Eqn.pv))],false,none⟩)],_⟩) (fun i=>i≤gs.length) 0 (fun _=>Nat.le_refl _) (Nat.zero_le _) ?_ ?_
 ·exact lE
 ·intro i hi R hR
  by_cases hlt:i<gs.length
  ·have e1:=getD_map gpv gs d0G hlt;have k:=hg _ (mem_getD d0G hlt);have hgo:=hR (i+1) (by omega) (by omega)
   obtain⟨x,hx⟩: ∃x,x=gs.getD i d0G:=⟨_,rfl⟩;rw[←hx]at e1 k;obtain⟨m,o⟩:=x;have v1:=r13Check_ok k.2.1 k.2.2;rw[k.1]at v1;clear hR hx k;simp only[gpv]at e1;repeat' first|simp only[go_sem,seval,l1,e1]|refine cP v1 ?_|refine sB ?_|(first|apply pX|apply bX)<;>intro hc|refine⟨oD,?_⟩|exact oD|fail
   refine hgo _ ?_;exact lE
  ·obtain rfl:i=gs.length:=by omega
   repeat' first|simp only[go_sem,seval,l1]|refine sB ?_|(first|apply pX|apply bX)<;>intro hc|refine⟨oD,?_⟩|exact oD|fail
   refine loop_run (α:=Nat) (fun i=>es.length-i) (fun i=>⟨[(1, .p 1000 0 0),(4,E' i)],[(1000,⟨0,[.v (.sl (gs.map gpv)), .v (.sl (vs.map vpv)), .v (.sl (es.map Eqn.pv))],false,none⟩)],_⟩) (fun i=>i≤es.length) 0 (fun _=>Nat.le_refl _) (Nat.zero_le _) ?_ ?_
   ·exact lE
   ·intro i hi R hR
    by_cases hlt:i<es.length
    ·have e1:=getD_map Eqn.pv es d0Q hlt;obtain⟨q1,q2,q3,q4,q5⟩:=hq _ (mem_getD d0Q hlt);have hgo:=hR (i+1) (by omega) (by omega)
     obtain⟨x,hx⟩: ∃x,x=es.getD i d0Q:=⟨_,rfl⟩;rw[←hx]at e1 q1 q2 q3 q4 q5;obtain⟨gr,tg,ts⟩:=x;simp only at q1 q2 q3 q4 q5;have hgl:gr.toNat<gs.length:=by omega
     have kg:=hg _ (mem_getD d0G hgl);have e3:=getD_map gpv gs d0G hgl;obtain⟨z,hz⟩: ∃z,z=gs.getD gr.toNat d0G:=⟨_,rfl⟩;rw[←hz]at q3 q5 kg e3;obtain⟨m,o⟩:=z;simp only at q3 q5 kg;have hIn: ∀{x:Bytes},gHas m o x=true→gIn m o x=true:=fun h=>by simp[gIn,kg.1,h]
     have v1:=r13Has_ok kg.2.1 kg.2.2 tg;rw[hIn q3]at v1;have v2:=r13Has_ok kg.2.1 kg.2.2;have l4:(ts.map Trm.pv).length=ts.length:=List.length_map ..;simp only[gpv]at e3;simp only[Eqn.pv]at e1;clear hR hx hz q3;repeat' first|simp only[go_sem,seval,l1,l3,e1,e3]|refine cP v1 ?_|refine sB ?_|(first|apply pX|apply bX)<;>intro hc|refine⟨oD,?_⟩|exact oD|fail
     refine loop_run (α:=Nat) (fun i=>ts.length-i) (fun j=>⟨[(1, .p 1000 0 0),(4,E' i),(5, .p 1019 0 0),(6, .p 1027 0 0),(7,E' j)],[(1000,⟨0,[.v (.sl (gs.map gpv)), .v (.sl (vs.map vpv)), .v (.sl (es.map Eqn.pv))],false,none⟩),(1019,⟨0,[.v (.i .i64 gr), .v (.s tg), .v (.sl (ts.map Trm.pv))],false,some 141⟩),(1027,⟨0,[.v (.s m), .v (.s o)],false,some 26⟩)],_⟩) (fun i=>i≤ts.length) 0 (fun _=>Nat.le_refl _) (Nat.zero_le _) ?_ ?_
     ·exact lE
     ·intro j hj R' hR'
      by_cases hjt:j<ts.length
      ·have e2:=getD_map Trm.pv ts d0T hjt;have t3:=(q5 _ (mem_getD d0T hjt)).2.2.1;have hgo':=hR' (j+1) (by omega) (by omega)
       obtain⟨y,hy⟩: ∃y,y=ts.getD j d0T:=⟨_,rfl⟩;rw[←hy]at e2 t3;obtain⟨b,v,n,a⟩:=y;simp only at t3;have v3:=v2 b;rw[hIn t3]at v3;simp only[Trm.pv]at e2;clear hR' hy t3 q5;repeat' first|simp only[go_sem,seval,l4,e2]|refine cP v3 ?_|refine sB ?_|(first|apply pX|apply bX)<;>intro hc|refine⟨oD,?_⟩|exact oD|fail
       refine hgo' _ ?_;exact lE
      ·obtain rfl:j=ts.length:=by omega
       repeat' first|simp only[go_sem,seval,l4]|refine sB ?_|(first|apply pX|apply bX)<;>intro hc|refine⟨oD,?_⟩|exact oD|fail
       refine hgo _ ?_;exact lE
    ·obtain rfl:i=es.length:=by omega
     repeat' first|simp only[go_sem,seval,l3]|refine sB ?_|(first|apply pX|apply bX)<;>intro hc|refine⟨oD,?_⟩|exact oD|fail
theorem rtyped_ok {s:Stm} (hs:StOK s):EvP Tryz.prog 372 [s.pv] (.b true):=by
 obtain⟨gs,vs,es⟩:=s;obtain⟨hg,hv,hq,ng,nv,ne⟩:=hs;simp only at hg hv hq ng nv ne;have l2:(vs.map vpv).length=vs.length:=List.length_map ..;unfold Stm.pv;simp only;refine eW Tryz.call372 Tryz.func372 ?_;repeat' first|simp only[go_sem,seval]|refine sB ?_|(first|apply pX|apply bX)<;>intro hc|refine⟨oD,?_⟩|exact oD|fail
 refine loop_run (α:=Nat) (fun i=>vs.length-i) (fun i=>⟨[(1, .p 1000 0 0),(3, .v (.b false)),(4,E' i)],[(1000,⟨0,[.v (.sl (gs.map gpv)), .v (.sl (vs.map vpv)), .v (.sl (es.map Eqn.pv))],false,none⟩)],_⟩) (fun i=>i≤vs.length) 0 (fun _=>Nat.le_refl _) (Nat.zero_le _) ?_ ?_
 ·exact lE
 ·intro i hi R hR
  by_cases hlt:i<vs.length
  ·have e1:=getD_map vpv vs [] hlt;have k:=(hv _ (mem_getD [] hlt)).2.1;have hgo:=hR (i+1) (by omega) (by omega)
   obtain⟨x,hx⟩: ∃x,x=vs.getD i []:=⟨_,rfl⟩;rw[←hx]at e1 k;have kb:(x==([]:Bytes))=false:=by simpa using k
   clear hR hx k;simp only[vpv]at e1;repeat' first|simp only[go_sem,seval,l2,e1,kb]|refine sB ?_|(first|apply pX|apply bX)<;>intro hc|refine⟨oD,?_⟩|exact oD|fail
   refine hgo _ ?_;exact lE
  ·obtain rfl:i=vs.length:=by omega
   repeat' first|simp only[go_sem,seval,l2]|refine sB ?_|(first|apply pX|apply bX)<;>intro hc|refine⟨oD,?_⟩|exact oD|fail
theorem rCheck15_ok {s:Stm} (hs:StOK s):EvP Tryz.prog 279 [s.pv] (E 0):=by
 have h1:=rformed_ok hs;have h2:=rmany_ok hs;have h3:=relements_ok hs;have h4:=rtyped_ok hs;clear hs;have h5:EvP Tryz.prog 283 [s.pv] (E 0):=by
  unfold Stm.pv at*;refine eW Tryz.call283 Tryz.func283 ?_;repeat' first|simp only[go_sem,seval]|refine cP h2 ?_|refine cP h3 ?_|refine cP h4 ?_|refine sB ?_|(first|apply pX|apply bX)<;>intro hc|refine⟨oD,?_⟩|exact oD|fail
 unfold Stm.pv at*;refine eW Tryz.call279 Tryz.func279 ?_;repeat' first|simp only[go_sem,seval]|refine cP h1 ?_|refine cP h5 ?_|refine sB ?_|(first|apply pX|apply bX)<;>intro hc|refine⟨oD,?_⟩|exact oD|fail
end Go.Proofs.YtmledjfbgjnknaaGreatDoor
