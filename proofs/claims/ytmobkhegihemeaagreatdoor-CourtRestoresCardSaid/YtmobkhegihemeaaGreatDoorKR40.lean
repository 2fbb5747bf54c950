/-
  Part of the proof, part KR40. Own work.
-/
import Derived.Test.YtmobkhegihemeaaGreatDoorKR39
set_option linter.all false
namespace Go.Proofs.YtmobkhegihemeaaGreatDoor
open Go Go.Dom Go.Num
set_option maxRecDepth 100000
set_option maxHeartbeats 16000000
def CK.fF (c:CK) (d:Nat):List Bytes:=c.y::c.sh.take (d-1)
noncomputable def CK.at (c:CK) (i:Nat):Nat:=yo (num c.m) (num c.o) (List.range c.need.toNat) ((c.fF c.need.toNat).map num) i
noncomputable def oz (c:CK):Bool:=(List.range (c.sh.length+1)).all fun i=>decide (i<c.need.toNat)||decide (c.at i=num (c.sh.getD (i-1) []))
noncomputable def ec (c:CK):Int:=
 if !([c.m,c.o,c.g,c.y].all aa)|| !(c.sh.all aa)then 3 else if !jH c.name then 1
 else if fg c.m c.o c.g c.y≠0 then fg c.m c.o c.g c.y
 else if !cT (num c.o)then 12
 else if(num c.o:Int)≤c.sh.length∨c.need<1∨c.need>c.sh.length then 6
 else if !(c.sh.all (fX c.m c.o))then 13 else if oz c then 0 else 22
theorem iL {m o g y:Bytes} (h:fg m o g y=0):gE m o=0∧o≠[]∧aa g=true∧GP m o (num g)∧g≠[1]∧aa y=true∧GP m o (num y)∧y≠[1]:=by
 unfold fg at h
 split at h
 ·cases h
 ·split at h
  ·rename_i h1;exact absurd h h1
  ·rename_i h1
   split at h
   ·cases h
   ·rename_i h2;have h0:gE m o=0:=by simpa using h1
    simp only[Bool.or_eq_true,Bool.not_eq_true',not_or,Bool.not_eq_false,beq_iff_eq,zu,fX,Bool.and_eq_true,beq_eq_false_iff_ne]at h2;obtain⟨⟨ho,⟨-,hg⟩,hg1⟩,⟨-,hy⟩,hy1⟩:=h2;obtain⟨a1,a2⟩:=(a7 h0).1 hg;obtain⟨b1,b2⟩:=(a7 h0).1 hy;exact⟨h0,ho,a1,a2,hg1,b1,b2,hy1⟩
theorem Bt (hf:Nat→Option aq) (f:Nat) (l:List PV):(l.map AV.v).flatMap (aH hf (f+1))=[]:=by
 induction l with
 |nil=>rfl
 |cons x r ih=>simp_all[aH]
theorem nr:cC mV 1:=⟨fun _=>rfl,fun x y hy=>by cases List.mem_singleton.1 hy;rfl,fun _ _=>rfl,fun h=>absurd rfl h⟩
theorem Oy {x:Bytes} (vx:aa x=true) (v:Nat):(aK v==x)=decide (v=num x):=by
 conv=>lhs;rw[←dZ vx]
 exact Ae v (num x)
theorem gI (c:CK) (ln:c.name.length≤60) (lm:c.m.length≤8) (lo:c.o.length≤8) (ls:c.sh.length≤8):aB Tryz.prog 9 [c.pv] (E (ec c)):=by
 unfold ec;obtain⟨name,m,o,g,y,need,sh⟩:=c;simp only[CK.pv]at*;have l1:(sh.map PV.s).length=sh.length:=List.length_map ..;have h1:=iZ [m,o,g,y] (by simp)
 simp only[List.map_cons,List.map_nil]at h1;have h2:=iZ sh (by omega)
 have h3:=vV name ln;have h4:=sY lm lo g y;have h5:=sS o
 cases hb1:[m,o,g,y].all aa with
 |false=>
  rw[hb1]at h1;simp only[Bool.not_false,Bool.true_or,if_true];refine eW Tryz.call9 Tryz.func9 ?_;repeat' first|simp only[go_sem,seval]|refine cP h1 ?_|refine sB ?_|(first|apply pX|apply bX)<;>intro hc|refine⟨oD,?_⟩|exact oD|fail
  all_goals rfl
 |true=>
 rw[hb1]at h1
 cases hb2:sh.all aa with
 |false=>
  rw[hb2]at h2;simp only[Bool.not_false,Bool.or_true,if_true];refine eW Tryz.call9 Tryz.func9 ?_;repeat' first|simp only[go_sem,seval]|refine cP h1 ?_|refine cP h2 ?_|refine sB ?_|(first|apply pX|apply bX)<;>intro hc|refine⟨oD,?_⟩|exact oD|fail
  all_goals rfl
 |true=>
 rw[hb2]at h2;simp only[Bool.not_true,Bool.or_self,Bool.false_eq_true,if_false]
 cases hn:jH name with
 |false=>
  rw[hn]at h3;simp only[Bool.not_false,if_true];refine eW Tryz.call9 Tryz.func9 ?_;repeat' first|simp only[go_sem,seval]|refine cP h1 ?_|refine cP h2 ?_|refine cP h3 ?_|refine sB ?_|(first|apply pX|apply bX)<;>intro hc|refine⟨oD,?_⟩|exact oD|fail
  all_goals rfl
 |true=>
 rw[hn]at h3;simp only[Bool.not_true,Bool.false_eq_true,if_false]
 by_cases hk:fg m o g y=0
 case neg=>
  rw[if_pos hk];generalize fg m o g y=e at*;refine eW Tryz.call9 Tryz.func9 ?_;repeat' first|simp only[go_sem,seval]|refine cP h1 ?_|refine cP h2 ?_|refine cP h3 ?_|refine cP h4 ?_|refine sB ?_|(first|apply pX|apply bX)<;>intro hc|refine⟨oD,?_⟩|exact oD|fail
 rw[hk]at h4;rw[if_neg (by simpa using hk)]
 obtain⟨hE,ho,vg,gg,-,vy,gy,-⟩:=iL hk;obtain⟨vm,vo,m1,-,-⟩:=fb hE;have hqW:=cE lo;rw[vo,decide_eq_true lo,show eC o=0 by have:=mC hqW;rwa[dZ vo]at this]at h5
 simp only[Bool.true_and]at h5
 cases hp:cT (num o)with
 |false=>
  rw[hp]at h5;simp only[Bool.not_false,if_true];refine eW Tryz.call9 Tryz.func9 ?_;repeat' first|simp only[go_sem,seval]|refine cP h1 ?_|refine cP h2 ?_|refine cP h3 ?_|refine cP h4 ?_|refine cP h5 ?_|refine sB ?_|(first|apply pX|apply bX)<;>intro hc|refine⟨oD,?_⟩|exact oD|fail
  all_goals rfl
 |true=>
 rw[hp]at h5;simp only[Bool.not_true,Bool.false_eq_true,if_false];obtain⟨n,hn0⟩: ∃n,n=sh.length:=⟨_,rfl⟩;have hW:=gF;have lS:sh.length=n:=hn0.symm;rw[lS]at ls⊢;have h6:=fI n (by omega)
 have h7:=lV (a:=n) (b:=num o) (by omega) (by omega)
 rw[dy vo]at h7;have hw: ∀ _:True,IntKind.u64.wrap (n:Int)=n:=fun _=>IntWalk.u64_in _ (by omega)
 have hcg:=tK n (num o);generalize aT n (num o)=cm at*
 by_cases hb:(num o:Int)≤n∨need<1∨need>n
 ·rw[if_pos hb]
  by_cases b1:num o≤n
  ·rw[decide_eq_true b1]at hcg;refine eW Tryz.call9 Tryz.func9 ?_;repeat' first|simp only[go_sem,seval,l1,lS,hw trivial,hcg]|refine cP h1 ?_|refine cP h2 ?_|refine cP h3 ?_|refine cP h4 ?_|refine cP h5 ?_|refine cP h6 ?_|refine cP h7 ?_|refine sB ?_|(first|apply pX|apply bX)<;>intro hc|refine⟨oD,?_⟩|exact oD|fail
   all_goals rfl
  ·rw[decide_eq_false b1]at hcg
   by_cases b2:need<1
   ·refine eW Tryz.call9 Tryz.func9 ?_;repeat' first|simp only[go_sem,seval,l1,lS,hw trivial,hcg]|refine cP h1 ?_|refine cP h2 ?_|refine cP h3 ?_|refine cP h4 ?_|refine cP h5 ?_|refine cP h6 ?_|refine cP h7 ?_|refine sB ?_|(first|apply pX|apply bX)<;>intro hc|refine⟨oD,?_⟩|exact oD|fail
    all_goals rfl
   ·have b3:need>n:=by omega
    refine eW Tryz.call9 Tryz.func9 ?_;repeat' first|simp only[go_sem,seval,l1,lS,hw trivial,hcg]|refine cP h1 ?_|refine cP h2 ?_|refine cP h3 ?_|refine cP h4 ?_|refine cP h5 ?_|refine cP h6 ?_|refine cP h7 ?_|refine sB ?_|(first|apply pX|apply bX)<;>intro hc|refine⟨oD,?_⟩|exact oD|fail
    all_goals rfl
 rw[if_neg hb];obtain⟨d,rfl⟩: ∃d:Nat,need=d:=⟨need.toNat,by omega⟩
 obtain⟨A,hA⟩: ∃A:Nat→Nat,A=fun i=>yo (num m) (num o) (List.range d) ((y::sh.take (d-1)).map num) i:=⟨_,rfl⟩
 obtain⟨cB,hcB0⟩: ∃cB,cB=oz ⟨name,m,o,g,y,(d:Int),sh⟩:=⟨_,rfl⟩;rw[←hcB0];have hcB:cB=(List.range (n+1)).all fun i=>decide (i<d)||decide (A i=num (sh.getD (i-1) [])):=by
  rw[hcB0,hA,←lS];rfl
 clear hcB0;rw[decide_eq_false (show¬(num o≤n) by omega)]at hcg
 have hsv:=List.all_eq_true.1 hb2;refine eW Tryz.call9 Tryz.func9 ?_;repeat' first|simp only[go_sem,seval,l1,lS,hw trivial,hcg]|refine cP h1 ?_|refine cP h2 ?_|refine cP h3 ?_|refine cP h4 ?_|refine cP h5 ?_|refine cP h6 ?_|refine cP h7 ?_|refine sB ?_|(first|apply pX|apply bX)<;>intro hc|refine⟨oD,?_⟩|exact oD|fail
 refine aj (α:=Nat) (fun i=>n-i) (fun i=>⟨[(1, .p 1000 0 0),(7,E' n),(90, .v (.sl (sh.map .s))),(91,E' n),(92,E' i)],[(1000,⟨0,[.v (.s name), .v (.s m), .v (.s o), .v (.s g), .v (.s y), .v (E d), .v (.sl (sh.map .s))],false,none⟩)],_⟩) (fun i=>i≤n∧(sh.drop i).all (fX m o)=sh.all (fX m o)) 0 (fun _=>Nat.le_refl _) ⟨Nat.zero_le _,rfl⟩ ?_ ?_
 ·exact lE
 ·rintro i ⟨hi,hf⟩ R hR
  by_cases hlt:i<n
  ·have e1:=eg (l:=sh) (x:=i) (by omega)
   have hgo:=fun h=>hR (i+1) ⟨by omega,h⟩ (by omega)
   rw[aJ [] (show i<sh.length by omega),List.all_cons]at hf
   generalize sh.getD i []=x at*;have hv:=nu lm lo x;clear hR hcB hA
   cases hbx:fX m o x with
   |true=>
    rw[hbx,Bool.true_and]at hf;rw[hbx]at hv;repeat' first|simp only[go_sem,seval,l1,e1]|refine cP hv ?_|refine sB ?_|(first|apply pX|apply bX)<;>intro hc|refine⟨oD,?_⟩|exact oD|fail
    refine hgo hf _ ?_;exact lE
   |false=>
    rw[hbx,Bool.false_and]at hf;rw[hbx]at hv;rw[←hf];clear hgo hf;repeat' first|simp only[go_sem,seval,l1,e1]|refine cP hv ?_|refine sB ?_|(first|apply pX|apply bX)<;>intro hc|refine⟨oD,?_⟩|exact oD|fail
    all_goals rfl
  ·obtain rfl:n=i:=by omega
   rw[←lS,List.drop_length]at hf;have hall:sh.all (fX m o)=true:=hf.symm;rw[hall];simp only[Bool.not_true,Bool.false_eq_true,if_false];clear hf hR;have hgp: ∀x∈sh,GP m o (num x):=fun x hx=>by
    have:=List.all_eq_true.1 hall x hx;unfold fX at this;rw[Bool.and_eq_true]at this;exact((a7 hE).1 this.2).2
   have hge: ∀x∈(y::sh.take (d-1)).map num,GP m o x:=fun x hx=>by
    obtain⟨z,hz,rfl⟩:=List.mem_map.1 hx;rcases List.mem_cons.1 hz with rfl|hz
    ·exact gy
    ·exact hgp z (List.mem_of_mem_take hz)
   have hlv: ∀x∈y::sh.take (d-1),aa x=true:=fun x hx=>by
    rcases List.mem_cons.1 hx with rfl|hx
    ·exact vy
    ·exact hsv x (List.mem_of_mem_take hx)
   have hll:(y::sh.take (d-1)).length=d:=by simp;omega
   have hat:=yG m o g y (pts:=List.range d) (by simp;omega) (by simp;omega) (fun a ha=>by have:=List.mem_range.1 ha;omega)
   have hcat:=fun k (hk:k<num o)=>tE lm lo hE ho hp g y (pts:=List.range d) (fF:=(y::sh.take (d-1)).map num) (by simp;omega) (by rw[List.length_map,hll];simp) List.nodup_range (fun a ha=>by have:=List.mem_range.1 ha;omega) (by simp;omega) hge (x:=k) hk
   rw[←Fq hlv]at hcat;have hcat: ∀k,k≤n→aB Tryz.prog 81 (.sl ((y::sh.take (d-1)).map .s)::E k::vU m o g y (List.range d)) (N (A k)):=fun k hk=>by rw[hA];exact hcat k (by omega)
   have hLs: ∀k,k+1<sh.length→sh.take (k+1)=sh.take k++[sh.getD k []]:=fun k hk=>cv [] (by omega)
   have hLr: ∀k,List.range (k+1)=List.range k++[k]:=fun k=>List.range_succ
   clear hA hgp hge hlv;repeat' first|simp only[go_sem,seval,l1,lS]|refine sB ?_|(first|apply pX|apply bX)<;>intro hc|refine⟨oD,?_⟩|exact oD|fail
   by_cases hd1:d=1
   ·have hr1:(List.range d).map mV=[E 0]:=by rw[hd1];rfl
    have hr2:(y::sh.take (d-1)).map PV.s=[.s y]:=by rw[hd1];rfl
    rw[hr2]at hcat;rw[hr1]at hat;have hlt1: ∀ _:True,decide ((1:Int)<(d:Int))=false:=fun _=>decide_eq_false (by omega)
    refine ae ?_;repeat' first|simp only[go_sem,seval,l1,lS,hlt1 trivial]|refine cP hat ?_|refine sB ?_|(first|apply pX|apply bX)<;>intro hc|refine⟨oD,?_⟩|exact oD|fail
    refine aj (α:=Nat) (fun k=>n+1-k) (fun k=>⟨[(1, .p 1000 0 0),(7,E' n),(11, .fs [.s y]),(13, .v (.fc 81 [] (vU m o g y (List.range d)))),(14,E' k)],[(1000,⟨0,[.v (.s name), .v (.s m), .v (.s o), .v (.s g), .v (.s y), .v (E d), .v (.sl (sh.map .s))],false,none⟩)],1102⟩) (fun k=>d≤k∧k≤n+1∧ ∀i,d≤i→i<k→A i=num (sh.getD (i-1) [])) d (fun _=>Nat.le_of_ble_eq_true rfl) ⟨Nat.le_refl _,by omega,fun i h1 h2=>by omega⟩ ?_ ?_
    ·exact lE
    ·rintro k ⟨hdk,hkn,hall⟩ R hR
     by_cases hlt:k≤n
     ·obtain⟨j,rfl⟩: ∃j,k=j+1:=⟨k-1,by omega⟩
      have hgo:=fun(h:A (j+1)=num (sh.getD j []))=>hR (j+1+1) ⟨by omega,by omega,fun i h1 h2=>by
       by_cases e:i=j+1
       ·subst e;exact h
       ·exact hall i h1 (by omega)⟩ (by omega)
      have e1:=eg (l:=sh) (x:=j) (by omega)
      have vx:=hsv _ (au [] (show j<sh.length by omega))
      have hc:=hcat (j+1) (by omega)
      have hw: ∀ _:True,IntKind.i64.wrap (((j+1:Nat):Int)-1)=(j:Int):=fun _=>by rw[IntWalk.i64_in _ (by omega)];omega
      have hb:=Oy vx (A (j+1));have hle: ∀ _:True,decide (((j+1:Nat):Int)≤(n:Int))=true:=fun _=>decide_eq_true (by omega)
      have hbad:A (j+1)≠num (sh.getD j [])→cB=false:=fun h=>by
       rw[hcB];exact List.all_eq_false.2 ⟨j+1,List.mem_range.2 (by omega),by
        rw[Nat.add_sub_cancel,decide_eq_false (show¬(j+1<d) by omega),decide_eq_false h];decide⟩
      generalize A (j+1)=v at*;generalize sh.getD j []=x at*;clear hR hall hcat hsv hcB
      by_cases hv:v=num x
      ·rw[decide_eq_true hv]at hb;have hgo:=hgo hv;clear hbad;repeat' first|simp only[go_sem,seval,l1,e1,hw trivial,hb,hle trivial,Bool.not_true]|refine cP hc ?_|refine sB ?_|(first|apply pX|apply bX)<;>intro hc|refine⟨oD,?_⟩|exact oD|fail
       refine hgo _ ?_;exact lE
      ·rw[decide_eq_false hv]at hb;rw[hbad hv];clear hgo hbad;repeat' first|simp only[go_sem,seval,l1,e1,hw trivial,hb,hle trivial,Bool.not_false]|refine cP hc ?_|refine sB ?_|(first|apply pX|apply bX)<;>intro hc|refine⟨oD,?_⟩|exact oD|fail
       all_goals rfl
     ·obtain rfl:k=n+1:=by omega
      have hgood:cB=true:=by
       rw[hcB];refine List.all_eq_true.2 fun i hi=> ?_
       have:=List.mem_range.1 hi
       by_cases h:i<d
       ·rw[decide_eq_true h];rfl
       ·rw[decide_eq_true (hall i (by omega) (by omega))];simp
      rw[hgood];have hle: ∀ _:True,decide (((n+1:Nat):Int)≤(n:Int))=false:=fun _=>decide_eq_false (by omega)
      clear hR hall hcat hsv hcB;repeat' first|simp only[go_sem,seval,hle trivial]|refine sB ?_|(first|apply pX|apply bX)<;>intro hc|refine⟨oD,?_⟩|exact oD|fail
      all_goals rfl
   ·refine ae ?_;have e1:=eg (l:=sh) (x:=0) (by omega)
    have t1:sh.take 1=[sh.getD 0 []]:=by rw[cv [] (by omega)];simp
    have hlt1: ∀ _:True,decide ((1:Int)<(d:Int))=true:=fun _=>decide_eq_true (by omega)
    repeat' first|simp only[go_sem,seval,l1,lS,e1,hlt1 trivial]|refine sB ?_|(first|apply pX|apply bX)<;>intro hc|refine⟨oD,?_⟩|exact oD|fail
    obtain⟨PX,hPX⟩: ∃PX:Nat→List PV,∀k,PX k=(List.range k).map mV:=⟨_,fun _=>rfl⟩
    obtain⟨PY,hPY⟩: ∃PY:Nat→List PV,∀k,PY k=(y::sh.take k).map PV.s:=⟨_,fun _=>rfl⟩
    rw[←hPX]at hat;rw[←hPY]at hcat;have XL: ∀k,(PX k).length=k:=fun k=>by rw[hPX];simp
    have YL: ∀k,k≤n→(PY k).length=k+1:=fun k hk=>by rw[hPY];simp;omega
    have XO: ∀k,((PX k).map AV.v).all AV.one=true:=fun k=>by rw[hPX];simp[mV,AV.one,PV.one]
    have YO: ∀k,((PY k).map AV.v).all AV.one=true:=fun k=>by
     rw[hPY,List.all_eq_true];intro a ha;obtain⟨b,hb,rfl⟩:=List.mem_map.1 ha;obtain⟨c,-,rfl⟩:=List.mem_map.1 hb;rfl
    have XN: ∀hf f k,((PX k).map AV.v).flatMap (aH hf (f+1))=[]:=fun hf f k=>Bt hf f _
    have YN: ∀hf f k,((PY k).map AV.v).flatMap (aH hf (f+1))=[]:=fun hf f k=>Bt hf f _
    have XB: ∀k,∀c∈(PX k).map AV.v,c.bd 1112=true:=fun k c hc=>by obtain⟨x,-,rfl⟩:=List.mem_map.1 hc;rfl
    have YB: ∀k,∀c∈(PY k).map AV.v,c.bd 1112=true:=fun k c hc=>by obtain⟨x,-,rfl⟩:=List.mem_map.1 hc;rfl
    have XS: ∀k,(PX k).map AV.v++[.v (E (k:Nat))]=(PX (k+1)).map AV.v:=fun k=>by rw[hPX,hPX,hLr];simp[mV]
    have YS: ∀k,k+1<n→(PY k).map AV.v++[.v (.s (sh.getD k []))]=(PY (k+1)).map AV.v:=fun k hk=>by rw[hPY,hPY,hLs k (by omega)];simp
    have X2:(PX 2).map AV.v=[.v (E 0), .v (E 1)]:=by rw[hPX];rfl
    have Y1:(PY 1).map AV.v=[.v (.s y), .v (.s (sh.getD 0 []))]:=by rw[hPY,t1];rfl
    have X2':PX 2=[E 0,E 1]:=by rw[hPX];rfl
    have Y1':PY 1=[.s y, .s (sh.getD 0 [])]:=by rw[hPY,t1];rfl
    clear hPX hPY hLr hLs;refine aj (α:=Nat⊕Unit) (fun j=>match j with| .inl j=>d-j| .inr _=>0) (fun j=>match j with| .inl j=>⟨[(1, .p 1000 0 0),(7,E' n),(10, .rs 1097 j 0 (j+2) 1),(11, .rs 1106 j 0 (j+2) 1),(12,E' (j+2))],[(1000,⟨0,[.v (.s name), .v (.s m), .v (.s o), .v (.s g), .v (.s y), .v (E d), .v (.sl (sh.map .s))],false,none⟩),(1097,⟨j,(PX (j+2)).map AV.v,true,some 3⟩),(1106,⟨j,(PY (j+1)).map AV.v,true,some 22⟩)],1112⟩| .inr _=>⟨[(10, .v (.sl (PX d))),(11, .v (.sl (PY (d-1)))),(1, .p 1000 0 0),(7,E' n),(12,E' d)],[(1000,⟨0,[.v (.s name), .v (.s m), .v (.s o), .v (.s g), .v (.s y), .v (E d), .v (.sl (sh.map .s))],false,none⟩)],1112⟩) (fun j=>match j with| .inl j=>j+2<d| .inr _=>True) (if 2<d then .inl 0 else .inr ()) (fun j=>by cases j<;>exact Nat.le_of_ble_eq_true rfl) ?_ ?_ ?_
    ·by_cases h2:2<d
     ·rw[if_pos h2];show 0+2<d;omega
     ·rw[if_neg h2];trivial
    ·by_cases h2:2<d
     ·rw[if_pos h2];simp only[Nat.zero_add,X2,Y1];exact lE
     ·rw[if_neg h2];have hd2:d=2:=by omega
      have z1:PX d=[E 0,E 1]:=by rw[hd2,X2']
      have z2:PY (d-1)=[.s y, .s (sh.getD 0 [])]:=by rw[hd2,Y1']
      simp only[z1,z2];have z3:((d:Nat):Int)=2:=by omega
      refine AS.Le.OY [(10, .sl [E 0,E 1]),(11, .sl [.s y, .s (sh.getD 0 [])])] [1097,1106] ?_ ?_ (by first|decide|omega) ?_ ?_
      ·intro q hq;simp at hq;rcases hq with rfl|rfl<;>exact⟨by decide,rfl⟩
      ·intro p hp;simp at hp;rcases hp with rfl|rfl<;>simp[aD,ai,view,aH,aI,chunk,AV.one,PV.one]
      ·simp[bL,bK,aD,ai,AV.bd,AV.bd.bdL,z3]
      ·simp[bL,bK,aD,ai,AV.bd,AV.bd.bdL,z3]
    ·rintro(j| _) hj R hR
     ·have hj:j+2<d:=hj;have q1:=XL (j+2);have q2:List.take (j+2) ((PX (j+2)).map AV.v)=(PX (j+2)).map AV.v:=List.take_of_length_le (by rw[List.length_map,q1];omega)
      have q3:=YL (j+1) (by omega)
      have q4:List.take (j+2) ((PY (j+1)).map AV.v)=(PY (j+1)).map AV.v:=List.take_of_length_le (by rw[List.length_map,q3];omega)
      have p1:=XS (j+2);have p2:=YS (j+1) (by omega)
      have e2:=eg (l:=sh) (x:=j+1) (by omega)
      have hw: ∀ _:True,IntKind.i64.wrap (((j+2:Nat):Int)-1)=((j+1:Nat):Int):=fun _=>by rw[IntWalk.i64_in _ (by omega)];omega
      have hlt2: ∀ _:True,decide (((j+2:Nat):Int)<(d:Int))=true:=fun _=>decide_eq_true (by omega)
      clear hcat hsv hcB e1 t1
      by_cases h3:j+3<d
      ·have hgo:=hR (.inl (j+1)) h3 (by show d-(j+1)<d-j;omega)
       simp only[show j+1+2=j+2+1 from rfl]at hgo
       clear hR;generalize sh.getD (j+1) []=x at*;repeat' first|simp only[go_sem,seval,l1,lS,e2,hw trivial,hlt2 trivial,q1,q2,q3,q4,p1,p2]|refine sB ?_|(first|apply pX|apply bX)<;>intro hc|refine⟨oD,?_⟩|exact oD|fail
       refine hgo _ ?_
       (refine AS.Le.of (by first|decide|omega) ?_ ?_<;>simp[bL,bK,aD,ai,AV.bd,AV.bd.bdL,u8,af,ah,ak])
       all_goals exact⟨fun c hc=>XB _ c (by simpa using hc),fun c hc=>YB _ c (by simpa using hc)⟩
      ·have hgo:=hR (.inr ()) trivial (by show 0<d-j;omega)
       clear hR;obtain rfl:d=j+3:=by omega
       generalize sh.getD (j+1) []=x at*;repeat' first|simp only[go_sem,seval,l1,lS,e2,hw trivial,hlt2 trivial,q1,q2,q3,q4,p1,p2]|refine sB ?_|(first|apply pX|apply bX)<;>intro hc|refine⟨oD,?_⟩|exact oD|fail
       refine hgo _ ?_;have q5:=XL (j+3);have q6:List.take (j+3) ((PX (j+3)).map AV.v)=(PX (j+3)).map AV.v:=List.take_of_length_le (by rw[List.length_map,q5];omega)
       have q7:=XO (j+3);have q8:chunk 1 (j+3) (PX (j+3))=PX (j+3):=by have:=nh (PX (j+3));rwa[q5]at this
       have p5:=YL (j+2) (by omega)
       have p6:List.take (j+3) ((PY (j+2)).map AV.v)=(PY (j+2)).map AV.v:=List.take_of_length_le (by rw[List.length_map,p5];omega)
       have p7:=YO (j+2);have p8:chunk 1 (j+3) (PY (j+2))=PY (j+2):=by have:=nh (PY (j+2));rwa[p5]at this
       refine AS.Le.OY [(10, .sl (PX (j+3))),(11, .sl (PY (j+2)))] [1097,1106] ?_ ?_ (by first|decide|omega) ?_ ?_
       ·intro q hq;simp at hq;rcases hq with rfl|rfl<;>exact⟨by decide,rfl⟩
       ·intro p hp;simp only[List.mem_cons,List.not_mem_nil,or_false]at hp;rcases hp with rfl|rfl<;>simp only[aD,ai,view,aH,dx,Nat.zero_add,List.drop_zero,Nat.mul_one,List.length_map,Nat.reduceEqDiff,if_true,if_false,q5,q6,q7,q8,p5,p6,p7,p8,XN,YN]<;>simp
        all_goals first|exact q8|exact p8
       ·simp[bL,bK,aD,ai,AV.bd,AV.bd.bdL]<;>omega
       ·simp[bL,bK,aD,ai,AV.bd,AV.bd.bdL]
     ·repeat' first|simp only[go_sem,seval,l1,lS]|refine cP hat ?_|refine sB ?_|(first|apply pX|apply bX)<;>intro hc|refine⟨oD,?_⟩|exact oD|fail
      refine aj (α:=Nat) (fun k=>n+1-k) (fun k=>⟨[(1, .p 1000 0 0),(7,E' n),(11, .v (.sl (PY (d-1)))),(13, .v (.fc 81 [] (vU m o g y (List.range d)))),(14,E' k)],[(1000,⟨0,[.v (.s name), .v (.s m), .v (.s o), .v (.s g), .v (.s y), .v (E d), .v (.sl (sh.map .s))],false,none⟩)],1124⟩) (fun k=>d≤k∧k≤n+1∧ ∀i,d≤i→i<k→A i=num (sh.getD (i-1) [])) d (fun _=>Nat.le_of_ble_eq_true rfl) ⟨Nat.le_refl _,by omega,fun i h1 h2=>by omega⟩ ?_ ?_
      ·exact lE
      ·rintro k ⟨hdk,hkn,hall⟩ R hR
       by_cases hlt:k≤n
       ·obtain⟨j,rfl⟩: ∃j,k=j+1:=⟨k-1,by omega⟩
        have hgo:=fun(h:A (j+1)=num (sh.getD j []))=>hR (j+1+1) ⟨by omega,by omega,fun i h1 h2=>by
         by_cases e:i=j+1
         ·subst e;exact h
         ·exact hall i h1 (by omega)⟩ (by omega)
        have e1:=eg (l:=sh) (x:=j) (by omega)
        have vx:=hsv _ (au [] (show j<sh.length by omega))
        have hc:=hcat (j+1) (by omega)
        have hw: ∀ _:True,IntKind.i64.wrap (((j+1:Nat):Int)-1)=(j:Int):=fun _=>by rw[IntWalk.i64_in _ (by omega)];omega
        have hb:=Oy vx (A (j+1));have hle: ∀ _:True,decide (((j+1:Nat):Int)≤(n:Int))=true:=fun _=>decide_eq_true (by omega)
        have hbad:A (j+1)≠num (sh.getD j [])→cB=false:=fun h=>by
         rw[hcB];exact List.all_eq_false.2 ⟨j+1,List.mem_range.2 (by omega),by
          rw[Nat.add_sub_cancel,decide_eq_false (show¬(j+1<d) by omega),decide_eq_false h];decide⟩
        generalize A (j+1)=v at*;generalize sh.getD j []=x at*;clear hR hall hcat hsv hcB
        by_cases hv:v=num x
        ·rw[decide_eq_true hv]at hb;have hgo:=hgo hv;clear hbad;repeat' first|simp only[go_sem,seval,l1,e1,hw trivial,hb,hle trivial,Bool.not_true]|refine cP hc ?_|refine sB ?_|(first|apply pX|apply bX)<;>intro hc|refine⟨oD,?_⟩|exact oD|fail
         refine hgo _ ?_;exact lE
        ·rw[decide_eq_false hv]at hb;rw[hbad hv];clear hgo hbad;repeat' first|simp only[go_sem,seval,l1,e1,hw trivial,hb,hle trivial,Bool.not_false]|refine cP hc ?_|refine sB ?_|(first|apply pX|apply bX)<;>intro hc|refine⟨oD,?_⟩|exact oD|fail
         all_goals rfl
       ·obtain rfl:k=n+1:=by omega
        have hgood:cB=true:=by
         rw[hcB];refine List.all_eq_true.2 fun i hi=> ?_
         have:=List.mem_range.1 hi
         by_cases h:i<d
         ·rw[decide_eq_true h];rfl
         ·rw[decide_eq_true (hall i (by omega) (by omega))];simp
        rw[hgood];have hle: ∀ _:True,decide (((n+1:Nat):Int)≤(n:Int))=false:=fun _=>decide_eq_false (by omega)
        clear hR hall hcat hsv hcB;repeat' first|simp only[go_sem,seval,hle trivial]|refine sB ?_|(first|apply pX|apply bX)<;>intro hc|refine⟨oD,?_⟩|exact oD|fail
        all_goals rfl
end Go.Proofs.YtmobkhegihemeaaGreatDoor
